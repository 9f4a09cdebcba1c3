/- Lemmas -/
import Derived.Test.YtfdmnogfflcllaaGreatDoorM18
import Derived.Test.YtfdmnogfflcllaaGreatDoorM10
set_option linter.all false
set_option maxRecDepth 100000
set_option maxHeartbeats 0
namespace Go.Proofs.YtfdmnogfflcllaaGreatDoor
open Go.Proofs.Tryz
theorem ED{p:Prop}(h:p:=by
 by_cases en:xn=n;·subst en;refine ent func160 ntmps160 ?_;gi_wp2;go_ret;exact⟨by rw[HX.out];simp[opW],F.out.bl⟩
 refine ent func160 ntmps160 ?_;gi_wp2;go_ret;exact⟨by rw[HX.out];simp[opW,en],F.out.bl⟩):p:=h
theorem EL{p:Prop}(h:p:=by
 clear s H;rcases hw with⟨rfl,rfl⟩|⟨rfl,rfl⟩|⟨rfl,rfl⟩|⟨rfl,rfl⟩
 all_goals
  refine ent func160 ntmps160 ?_;gi_wp2;go_ret;exact⟨by rw[HX.out];simp[opW],F.out.bl⟩):p:=h
theorem JK{p:Prop}(h:p:=by
 clear HX;rcases o with rfl|rfl
 all_goals
  refine ent func168 ntmps168 ?_;gi_wp2;go_ret;exact⟨rfl,F.out.bl⟩):p:=h
theorem Xb{p:Prop}(h:p:=by refine ent func195 ntmps195 ?_;gi_wp2;go_ret;exact⟨by simp[jnW,d],bL _ _⟩):p:=h
theorem Xh{p:Prop}(h:p:=by refine ent func196 ntmps196 ?_;gi_wp2;go_ret;exact⟨by simp[tnW],bL _ _⟩):p:=h
variable {a b kd n k xn:Int}{l:List Int}{i b1 b2 m c:Nat}{x:aU}{w:World}{M:List Nat}{A:Option Addr}
def jnW(a b:Int):Int:=if a=0 then b else if b=0\/a=b then a else 3
def tnW(a:Int):Int:=if a=1 then 2 else if a=2 then 1 else a
def opW(kd n k xn:Int)(l:List Int):Int:=
 if k=2\/k=5 then(if k=kd/\xn=n then 1 else 0)
 else if k=3\/k=4 then(if k=kd then 1 else 0)
 else if k=6\/k=9\/k=10 then jnW (l.getD 0 0) (l.getD 1 0)
 else if k=7 then jnW (l.getD 0 0) (tnW (l.getD 1 0))
 else if k=8 then(if 0<xn then l.getD 0 0 else 0)
 else if k=11 then(if jnW (l.getD 0 0) (l.getD 1 0)=0 then jnW (l.getD 2 0) (l.getD 3 0)else 3)
 else 0
mutual
def a_(kd n:Int):aU->Int
 | .mk k _ xn _ l=>opW kd n k xn (acJ kd n l)
def acJ(kd n:Int):List aU->List Int
 | []=> []
 |x::l=>a_ kd n x::acJ kd n l
end
theorem ac6(kd n:Int)(x:aU):a_ kd n x=opW kd n x.kind x.n (acJ kd n x.l):=by cases x;rw[a_];rfl
theorem acn(kd n:Int):∀l,acJ kd n l=l.map (a_ kd n)
 | []=>rfl
 |x::l=>by rw[acJ,acn kd n l];rfl
def IsW(a:Int):Prop:=a=0\/a=1\/a=2\/a=3
theorem ad1(ha:IsW a)(hb:IsW b):IsW (jnW a b):=by rcases ha with rfl|rfl|rfl|rfl<;>rcases hb with rfl|rfl|rfl|rfl<;>simp[jnW,IsW]
theorem afb(ha:IsW a):IsW (tnW a):=by rcases ha with rfl|rfl|rfl|rfl<;>simp[tnW,IsW]
theorem afT(h:∀x,x∈l->IsW x)(i:Nat):IsW (l.getD i 0):=by
 rw[cC]
 cases e:l[i]? with
 |none=>exact .inl rfl
 |some x=>exact h x (bh e)
theorem ahh(h:∀x,x∈l->IsW x):IsW (opW kd n k xn l):=by
 have g:=afT h;unfold opW
 repeat' split
 all_goals first
  |exact ad1 (g _) (g _)
  |exact ad1 (g _) (afb (g _))
  |exact g _
  |exact .inl rfl
  |exact .inr (.inl rfl)
  |exact .inr (.inr (.inr rfl))
theorem aam(kd n:Int)(x:aU):IsW (a_ kd n x):=by
 induction x using iY with
 |_ x ih=>rw[ac6,acn];exact ahh fun y g=>by obtain⟨z,d,rfl⟩:=eE.1 g;exact ih z d
theorem adu(kd n:Int){l:List aU}(h:l[i]?=some x):(acJ kd n l).getD i 0=a_ kd n x:=by rw[acn,cC,cM,h];rfl
theorem adv(h:k=6\/k=9\/k=10):opW kd n k xn l=jnW (l.getD 0 0) (l.getD 1 0):=by rcases h with rfl|rfl|rfl<;>rfl
theorem aem:opW kd n 7 xn l=jnW (l.getD 0 0) (tnW (l.getD 1 0)):=rfl
theorem acR:opW kd n 8 xn l=if 0<xn then l.getD 0 0 else 0:=rfl
theorem afc:opW kd n 11 xn l=if jnW (l.getD 0 0) (l.getD 1 0)=0 then jnW (l.getD 2 0) (l.getD 3 0)else 3:=rfl
theorem adw(ha:IsW a)(hb:IsW b):jnW a b=0↔a=0/\b=0:=by rcases ha with rfl|rfl|rfl|rfl<;>rcases hb with rfl|rfl|rfl|rfl<;>simp[jnW]
def aaJ(nc k:Nat)(x:aU):List Int:=(List.range nc).map (fun i=>a_ 2 (i:Nat) x)++ [a_ 3 0 x,a_ 4 0 x]++(List.range k).map (fun i=>a_ 5 (i:Nat) x)
def abd(nc:Nat)(l:List Int):Bool:=(List.range l.length).all fun i=>decide (l.getD i 0=0)||decide (l.getD i 0=if i=nc+1 then 2 else 1)
section
open Go.RowKit Go.Shelf
attribute [local go_sem] cX
def WOk(y:aU):Prop:=(y.kind=6\/y.kind=7\/y.kind=9\/y.kind=10->y.l.length=2)/\(y.kind=8->y.l.length=1/\0<=y.n)/\(y.kind=11->y.l.length=4)
theorem abZ:CB 195 #[a,b] (.int .i64 (jnW a b)) w:=by
 refine wid ?_;by_cases d:a=0;·subst d;refine ent func195 ntmps195 ?_;gi_wp2;go_ret;exact⟨by simp[jnW],bL _ _⟩
 by_cases e:b=0;·subst e;exact Xb
 by_cases s:a=b;·subst s;exact Xb
 have L:(b==0)=false:=by simpa using e
 have f:(a==b)=false:=by simpa using s
 refine ent func195 ntmps195 ?_;gi_wp2;go_ret;exact⟨by simp[jnW,d,e,s],bL _ _⟩
theorem aeF:CB 196 #[a] (.int .i64 (tnW a)) w:=by
 refine wid ?_;by_cases d:a=1;·subst d;exact Xh
 by_cases e:a=2;·subst e;exact Xh
 refine ent func196 ntmps196 ?_;gi_wp2;go_ret;exact⟨by simp[tnW,d,e],bL _ _⟩
theorem abN{what:Int}(hw:what=0/\kd=2\/what=1/\kd=3\/what=2/\kd=4\/what=3/\kd=5):∀(x:aU),(∀y,y∈iZ x->WOk y)->∀{M:List Nat}{A:Option Addr}{m c:Nat}{w:World},Sl aU w M A m c x.l->
 CB 160 #[.agg #[x.kind,x.name,x.n,x.d,.slice A m c],what,n] (.int .i64 (a_ kd n x)) w:=by
 intro x
 induction x using iY with
 |_ x ih=>
 intro al M A m c w hs;refine wid ?_;have aI:=hs.small;have az:=hs.len;have s:=al x (by rw[lW];exact cw);unfold WOk at s;have hx:=ac6 kd n x;have HG:=Hd (fun(i:Nat) (y:aU) (h:x.l[i]?=some y)=>adu kd n h);have IH:=Hd (fun y (g:y∈x.l)=> @ih y g (fun z q=>al z (by rw[lW];exact bE _ (qF g q))));obtain⟨l,au⟩:=aC x.l;rw[au]at hs az s hx HG IH;obtain⟨X,hX⟩:=aC (a_ kd n x);rw[hX]at hx |-;obtain⟨k,ak⟩:=aC x.kind;obtain⟨nm,aq⟩:=aC x.name;obtain⟨xn,am⟩:=aC x.n;obtain⟨xd,ar⟩:=aC x.d;rw[ak,am]at s hx;rw[ak,aq,am,ar];have HX:=Hd hx;obtain⟨W1,aE,F1⟩:=dR ((Fr.nil w).a w [k,nm,xn,xd,.slice A m c] 66);have F:=Hd F1;have H:=Hd (hs.go F1.bl);clear ih al au hX ak aq am ar hs hx F1;have FO:=F.out;refine op1 FO ?_;intros;clear FO;by_cases T:k=2
 ·subst T;clear s H;rcases hw with⟨rfl,rfl⟩|⟨rfl,rfl⟩|⟨rfl,rfl⟩|⟨rfl,rfl⟩;·exact ED
  all_goals
   refine ent func160 ntmps160 ?_;gi_wp2;go_ret;exact⟨by rw[HX.out];simp[opW],F.out.bl⟩
 by_cases W:k=3;·subst W;exact EL
 by_cases Y:k=4;·subst Y;exact EL
 by_cases Z:k=5
 ·subst Z;clear s H;rcases hw with⟨rfl,rfl⟩|⟨rfl,rfl⟩|⟨rfl,rfl⟩|⟨rfl,rfl⟩;rotate_left 3;·exact ED
  all_goals
   refine ent func160 ntmps160 ?_;gi_wp2;go_ret;exact⟨by rw[HX.out];simp[opW],F.out.bl⟩
 by_cases P:k=6\/k=9\/k=10
 ·have ay:l.length=2:=s.1 pj;obtain rfl:m=2:=pj;rw[adv P]at HX;obtain⟨y,g⟩:=dW l 0 pj;obtain⟨z,q⟩:=dW l 1 pj;obtain⟨b,o,B,n1,d1,r,⟨t,v,C,D,E⟩,-,hys⟩:=H.out.qQ g;cases r;obtain⟨b',o',B2,n2,d2,e2,⟨I,J,L,N,O⟩,-,hzs⟩:=H.out.qQ q;cases e2;simp only[fX,fh,eB,dC,Nat.reduceMul]at t v C D E I J L N O;have f4:=ah (F.out.aQ 0 4);have u0:=ah t;have u1:=ah v;have u2:=ah C;have u3:=ah D;have u4:=ah E;have v0:=ah I;have v1:=ah J;have v2:=ah L;have v3:=ah N;have v4:=ah O;have R:Below W1 W1 W1.drew:=pE.drew;have G:=Hd2 (IH.out y (bh g) (hys.go R)) (fun V (hV:Below W1.drew.heap.size W1.drew V)=>IH.out z (bh q) (hzs.go (R.trans hV)));have Q:=HG.out 0 y g;have r:=HG.out 1 z q;have S:=Hd2 Q r;clear g q t v C D E I J L N O hys hzs R Q r;clear s T W Y Z;rcases P with rfl|rfl|rfl
  all_goals
   refine ent func160 ntmps160 ?_;gi_wp2;refine iF [] 15 1 [0,1,2,3,4,5,7,8,9,10,11,12,6,13,14] pk pk rfl ?_;refine eH ?_;refine aH fun K f=>aA rfl rfl wy fun p j=>?_;gi_wp2;refine Cl 160 G.a ?_;rintro e w2 ⟨rfl,aa⟩;refine j _ _ ⟨?_,f _ _ ?_⟩;clear j p f K;·exact bq aa _
   refine lit ?_;refine eH ?_;refine aH fun K f=>aA rfl rfl wy fun p j=>?_;gi_wp2;refine Cl 160 (G.u w2 aa) ?_;rintro e w3 ⟨rfl,ac⟩;refine j _ _ ⟨?_,f _ _ ?_⟩;clear j p f K;·exact bq ac _
   refine lit ?_;refine eH ?_;refine aH fun K f=>aA rfl rfl wy fun p j=>?_;gi_wp2;refine Cl 195 abZ ?_;rintro e w4 ⟨rfl,hb4⟩;refine j _ _ ⟨?_,f _ _ ?_⟩;clear j p f K;·exact bq hb4 _
   refine lit ?_;refine aK ?_;refine jW fun K f p j=>?_;gi_wp2;refine et _ ?_;gi_wp2;go_ret;have q1:=F.out.drew.bl;have q2:=q1.trans (aa.mono q1.size);have q3:=q2.trans (ac.mono q2.size);exact⟨by rw[HX.out,S.a,S.u];rfl,q3.trans (hb4.mono q3.size)⟩
 by_cases k7:k=7
 ·subst k7;have ay:l.length=2:=s.1 pj;obtain rfl:m=2:=pj;rw[aem]at HX;obtain⟨y,g⟩:=dW l 0 pj;obtain⟨z,q⟩:=dW l 1 pj;obtain⟨b,o,B,n1,d1,r,⟨t,v,C,D,E⟩,-,hys⟩:=H.out.qQ g;cases r;obtain⟨b',o',B2,n2,d2,e2,⟨I,J,L,N,O⟩,-,hzs⟩:=H.out.qQ q;cases e2;simp only[fX,fh,eB,dC,Nat.reduceMul]at t v C D E I J L N O;have f4:=ah (F.out.aQ 0 4);have u0:=ah t;have u1:=ah v;have u2:=ah C;have u3:=ah D;have u4:=ah E;have v0:=ah I;have v1:=ah J;have v2:=ah L;have v3:=ah N;have v4:=ah O;have R:Below W1 W1 W1.drew:=pE.drew;have G:=Hd2 (IH.out y (bh g) (hys.go R)) (fun V (hV:Below W1.drew.heap.size W1.drew V)=>IH.out z (bh q) (hzs.go (R.trans hV)));have Q:=HG.out 0 y g;have r:=HG.out 1 z q;have S:=Hd2 Q r;clear g q t v C D E I J L N O hys hzs R Q r;clear s T W Y Z P;refine ent func160 ntmps160 ?_;gi_wp2;refine iF [] 16 1 [0,1,2,3,4,5,7,8,9,10,11,12,6,13,14,15] pk pk rfl ?_;refine eH ?_;refine aH fun K f=>aA rfl rfl wy fun p j=>?_;gi_wp2;refine Cl 160 G.a ?_;rintro e w2 ⟨rfl,aa⟩;refine j _ _ ⟨?_,f _ _ ?_⟩;clear j p f K;·exact bq aa _
  refine lit ?_;refine eH ?_;refine aH fun K f=>aA rfl rfl wy fun p j=>?_;gi_wp2;refine Cl 160 (G.u w2 aa) ?_;rintro e w3 ⟨rfl,ac⟩;refine j _ _ ⟨?_,f _ _ ?_⟩;clear j p f K;·exact bq ac _
  refine lit ?_;refine eH ?_;refine aH fun K f=>aA rfl rfl wy fun p j=>?_;gi_wp2;refine Cl 196 aeF ?_;rintro e w4 ⟨rfl,hb4⟩;refine j _ _ ⟨?_,f _ _ ?_⟩;clear j p f K;·exact bq hb4 _
  refine lit ?_;refine eH ?_;refine aH fun K f=>aA rfl rfl wy fun p j=>?_;gi_wp2;refine Cl 195 abZ ?_;rintro e w5 ⟨rfl,ao⟩;refine j _ _ ⟨?_,f _ _ ?_⟩;clear j p f K;·exact bq ao _
  refine lit ?_;refine aK ?_;refine jW fun K f p j=>?_;gi_wp2;refine et _ ?_;gi_wp2;go_ret;have q1:=F.out.drew.bl;have q2:=q1.trans (aa.mono q1.size);have q3:=q2.trans (ac.mono q2.size);have q4:=q3.trans (hb4.mono q3.size);exact⟨by rw[HX.out,S.a,S.u];rfl,q4.trans (ao.mono q4.size)⟩
 by_cases k8:k=8
 ·subst k8;obtain⟨aF,aJ⟩:=s.2.1 rfl;obtain rfl:m=1:=pj;rw[acR]at HX;clear s T W Y Z P k7;by_cases hp:0<xn;·obtain⟨y,g⟩:=dW l 0 pj;obtain⟨b,o,B,n1,d1,rfl,⟨t,v,C,D,E⟩,-,hys⟩:=H.out.qQ g;simp only[fX,eB]at t v C D E;have G:=Hd (IH.out y (bh g) hys);have S:=Hd (HG.out 0 y g);have aL:(xn==0)=false:=px;clear g hys;refine ent func160 ntmps160 ?_;gi_wp2;refine Cl 160 G.out ?_;rintro e w2 ⟨rfl,ab⟩;gi_wp2;go_ret;exact⟨by rw[HX.out,if_pos hp,S.out];rfl,F.out.bl.trans (ab.mono F.out.bl.size)⟩
  obtain rfl:xn=0:=pj;refine ent func160 ntmps160 ?_;gi_wp2;go_ret;exact⟨by rw[HX.out];simp,F.out.bl⟩
 by_cases ad:k=11
 ·subst ad;have aG:=s.2.2 rfl;obtain rfl:m=4:=pj;rw[afc]at HX;clear s T W Y Z P k7 k8;obtain⟨y,g⟩:=dW l 0 pj;obtain⟨z,q⟩:=dW l 1 pj;obtain⟨b,o,B,n1,d1,rfl,⟨t,v,C,D,E⟩,-,hys⟩:=H.out.qQ g;simp only[fX,eB]at t v C D E;have G:=Hd (IH.out y (bh g) hys);have Q:=HG.out 0 y g;have r:=HG.out 1 z q;have wy:=aam kd n y;have wz:=aam kd n z;obtain⟨a,ha⟩:=aC (a_ kd n y);obtain⟨a',ai⟩:=aC (a_ kd n z);rw[ha]at Q G wy;rw[ai]at r wz;rw[Q,r]at HX;have HW:=Hd2 wy wz;have HZ:=Hd2 q ai;clear g hys Q r wy wz q ha ai;refine ent func160 ntmps160 ?_;gi_wp2;refine Cl 160 G.out ?_;rintro e w2 ⟨rfl,ab⟩;have F2:=Hd (F.out.go ab);have H2:=Hd (H.out.go ab);clear ab t v C D E;by_cases ea:a=0
  ·subst ea;have FO:=F2.out;refine op1 FO ?_;intros;clear FO;obtain⟨b',o',B2,n2,d2,e2,⟨I,J,L,N,O⟩,-,hzs⟩:=H2.out.qQ HZ.a;cases e2;simp only[fh]at I J L N O;have ae:=Hd (IH.out z (bh HZ.a) hzs);rw[HZ.u]at ae;clear hzs;gi_wp2;refine Cl 160 ae.out ?_;rintro e w3 ⟨rfl,aj⟩;have F3:=Hd (F2.out.go aj);have H3:=Hd (H2.out.go aj);clear aj I J L N O;by_cases eb:a'=0
   ·subst eb;obtain⟨y,g⟩:=dW l 2 pj;obtain⟨z,q⟩:=dW l 3 pj;obtain⟨b,o,B,n1,d1,r,⟨t,v,C,D,E⟩,-,hys⟩:=H3.out.qQ g;cases r;obtain⟨b',o',B2,n2,d2,e2,⟨I,J,L,N,O⟩,-,hzs⟩:=H3.out.qQ q;cases e2;simp only[fX,fh,eB,dC,Nat.reduceMul]at t v C D E I J L N O;have f4:=ah (F3.out.aQ 0 4);have u0:=ah t;have u1:=ah v;have u2:=ah C;have u3:=ah D;have u4:=ah E;have v0:=ah I;have v1:=ah J;have v2:=ah L;have v3:=ah N;have v4:=ah O;have R:Below w3 w3 w3.drew:=pE.drew;have G:=Hd2 (IH.out y (bh g) (hys.go R)) (fun V (hV:Below w3.drew.heap.size w3.drew V)=>IH.out z (bh q) (hzs.go (R.trans hV)));have Q:=HG.out 2 y g;have r:=HG.out 3 z q;have S:=Hd2 Q r;clear g q t v C D E I J L N O hys hzs R Q r;gi_wp2;refine iF [] 15 1 [0,1,2,3,4,5,7,8,9,10,11,12,6,13,14] pk pk rfl ?_;refine eH ?_;refine aH fun K f=>aA rfl rfl wy fun p j=>?_;gi_wp2;refine Cl 160 G.a ?_;rintro e w4 ⟨rfl,af⟩;refine j _ _ ⟨?_,f _ _ ?_⟩;clear j p f K;·exact bq af _
    refine lit ?_;refine eH ?_;refine aH fun K f=>aA rfl rfl wy fun p j=>?_;gi_wp2;refine Cl 160 (G.u w4 af) ?_;rintro e w5 ⟨rfl,an⟩;refine j _ _ ⟨?_,f _ _ ?_⟩;clear j p f K;·exact bq an _
    refine lit ?_;refine eH ?_;refine aH fun K f=>aA rfl rfl wy fun p j=>?_;gi_wp2;refine Cl 195 abZ ?_;rintro e w6 ⟨rfl,ap⟩;refine j _ _ ⟨?_,f _ _ ?_⟩;clear j p f K;·exact bq ap _
    refine lit ?_;refine aK ?_;refine jW fun K f p j=>?_;gi_wp2;refine et _ ?_;gi_wp2;go_ret;have q1:=F3.out.drew.bl;have q2:=q1.trans (af.mono q1.size);have q3:=q2.trans (an.mono q2.size);have aw:X=jnW ((acJ kd n l).getD 2 0) ((acJ kd n l).getD 3 0):=by rw[HX.out];exact if_pos rfl
    exact⟨by rw[aw,S.a,S.u];rfl,q3.trans (ap.mono q3.size)⟩
   have ax:(a'==0)=false:=by simpa using eb
   have ag:X=3:=by rw[HX.out];exact if_neg (fun h=>eb ((adw HW.a HW.u).1 h).2)
   clear HX HW HZ G ae;gi_wp2;go_ret;exact⟨by rw[ag];rfl,F3.out.bl⟩
  have ax:(a==0)=false:=by simpa using ea
  have ag:X=3:=by rw[HX.out];exact if_neg (fun h=>ea ((adw HW.a HW.u).1 h).1)
  clear HX HW HZ G;gi_wp2;refine⟨bO,?_⟩;gi_wp2;go_ret;exact⟨by rw[ag];rfl,F2.out.bl⟩
 clear s H;rw[not_or,not_or]at P;have b2:(k==2)=false:=by simpa using T
 have b3:(k==3)=false:=by simpa using W
 have b4:(k==4)=false:=by simpa using Y
 have b5:(k==5)=false:=by simpa using Z
 have b6:(k==6)=false:=by simpa using P.1
 have b9:(k==9)=false:=by simpa using P.2.1
 have aB:(k==10)=false:=by simpa using P.2.2
 have b7:(k==7)=false:=by simpa using k7
 have b8:(k==8)=false:=by simpa using k8
 have aD:(k==11)=false:=by simpa using ad
 have av:X=0:=by rw[HX.out];simp[opW,T,W,Y,Z,P.1,P.2.1,P.2.2,k7,k8,ad]
 clear HX T W Y Z P k7 k8 ad;refine ent func160 ntmps160 ?_;gi_wp2;go_ret;exact⟨by rw[av];rfl,F.out.bl⟩
theorem abn(ha:IsW a)(hb:IsW b):CB 170 #[a,b] (.int .i64 (jnW a b)) w:=by
 refine wid ?_;have e:∀(a b c d:Int) (w:World),(Instr.index 253 (.agg #[a,b,c,d]) (.int .i64 0)).run prog w=.ok a w:=fun _ _ _ _ _=>by kernel_rfl
 have f:∀(a b c d:Int) (w:World),(Instr.index 253 (.agg #[a,b,c,d]) (.int .i64 1)).run prog w=.ok b w:=fun _ _ _ _ _=>by kernel_rfl
 have g:∀(a b c d:Int) (w:World),(Instr.index 253 (.agg #[a,b,c,d]) (.int .i64 2)).run prog w=.ok c w:=fun _ _ _ _ _=>by kernel_rfl
 have j:∀(a b c d:Int) (w:World),(Instr.index 253 (.agg #[a,b,c,d]) (.int .i64 3)).run prog w=.ok d w:=fun _ _ _ _ _=>by kernel_rfl
 have o:∀w,(Instr.index 254 (.agg #[.int .i64 0,.int .i64 1,.int .i64 2,.int .i64 3,.int .i64 1,.int .i64 1,.int .i64 3,.int .i64 3,.int .i64 2,.int .i64 3,.int .i64 2,.int .i64 3,.int .i64 3,.int .i64 3,.int .i64 3,.int .i64 3]) (.int .i64 0)).run prog w=.ok (.agg #[.int .i64 0,.int .i64 1,.int .i64 2,.int .i64 3]) w:=fun _=>by kernel_rfl
 have p:∀w,(Instr.index 254 (.agg #[.int .i64 0,.int .i64 1,.int .i64 2,.int .i64 3,.int .i64 1,.int .i64 1,.int .i64 3,.int .i64 3,.int .i64 2,.int .i64 3,.int .i64 2,.int .i64 3,.int .i64 3,.int .i64 3,.int .i64 3,.int .i64 3]) (.int .i64 1)).run prog w=.ok (.agg #[.int .i64 1,.int .i64 1,.int .i64 3,.int .i64 3]) w:=fun _=>by kernel_rfl
 have q:∀w,(Instr.index 254 (.agg #[.int .i64 0,.int .i64 1,.int .i64 2,.int .i64 3,.int .i64 1,.int .i64 1,.int .i64 3,.int .i64 3,.int .i64 2,.int .i64 3,.int .i64 2,.int .i64 3,.int .i64 3,.int .i64 3,.int .i64 3,.int .i64 3]) (.int .i64 2)).run prog w=.ok (.agg #[.int .i64 2,.int .i64 3,.int .i64 2,.int .i64 3]) w:=fun _=>by kernel_rfl
 have r:∀w,(Instr.index 254 (.agg #[.int .i64 0,.int .i64 1,.int .i64 2,.int .i64 3,.int .i64 1,.int .i64 1,.int .i64 3,.int .i64 3,.int .i64 2,.int .i64 3,.int .i64 2,.int .i64 3,.int .i64 3,.int .i64 3,.int .i64 3,.int .i64 3]) (.int .i64 3)).run prog w=.ok (.agg #[.int .i64 3,.int .i64 3,.int .i64 3,.int .i64 3]) w:=fun _=>by kernel_rfl
 rcases ha with rfl|rfl|rfl|rfl<;>rcases hb with rfl|rfl|rfl|rfl
 all_goals
  refine ent func170 ntmps170 ?_;gi_wp2;go_ret;exact⟨rfl,bL _ _⟩
theorem aeG(ha:IsW a):CB 171 #[a] (.int .i64 (tnW a)) w:=by
 refine wid ?_;have e:∀(a b c d:Int) (w:World),(Instr.index 253 (.agg #[a,b,c,d]) (.int .i64 0)).run prog w=.ok a w:=fun _ _ _ _ _=>by kernel_rfl
 have f:∀(a b c d:Int) (w:World),(Instr.index 253 (.agg #[a,b,c,d]) (.int .i64 1)).run prog w=.ok b w:=fun _ _ _ _ _=>by kernel_rfl
 have g:∀(a b c d:Int) (w:World),(Instr.index 253 (.agg #[a,b,c,d]) (.int .i64 2)).run prog w=.ok c w:=fun _ _ _ _ _=>by kernel_rfl
 have j:∀(a b c d:Int) (w:World),(Instr.index 253 (.agg #[a,b,c,d]) (.int .i64 3)).run prog w=.ok d w:=fun _ _ _ _ _=>by kernel_rfl
 rcases ha with rfl|rfl|rfl|rfl
 all_goals
  refine ent func171 ntmps171 ?_;gi_wp2;go_ret;exact⟨rfl,bL _ _⟩
structure LkS(w:World)(b1 b2:Nat)(kd n:Int):Prop where
 lk:w.cell? ⟨b1,0,none⟩=some (.func (.func 168) #[] #[.pointer (some ⟨b1,0,none⟩),.pointer (some ⟨b2,0,none⟩)])
 k0:w.cell? ⟨b2,0,none⟩=some (.int .i64 kd)
 k1:w.cell? ⟨b2,1,none⟩=some (.int .i64 n)
theorem LkS.go{w':World}(h:LkS w b1 b2 kd n)(hb:Below w w w'):LkS w' b1 b2 kd n:=⟨(hb.cell (bw w _ h.lk)).trans h.lk,(hb.cell (bw w _ h.k0)).trans h.k0,(hb.cell (bw w _ h.k1)).trans h.k1⟩
def LkC(b1 b2:Nat)(kd n:Int)(x:aU):Prop:=∀{M:List Nat}{A:Option Addr}{m c:Nat}{w:World},Sl aU w M A m c x.l->LkS w b1 b2 kd n->Calls prog 168 #[.agg #[x.kind,x.name,x.n,x.d,.slice A m c],.pointer (some ⟨b1,0,none⟩),.pointer (some ⟨b2,0,none⟩)] w fun e w'=>e=.returned (.int .i64 (a_ kd n x))/\Below w w w'
theorem aah{bx:Nat}{l:List aU}{y:aU}(h4:w.cell? ⟨bx,4,none⟩=some (.slice A m c))(L:LkS w b1 b2 kd n)(hs:Sl aU w M A m c l)(hy:l[i]?=some y)(ih:LkC b1 b2 kd n y):
 CB 169 #[i,.pointer (some ⟨b1,0,none⟩),.pointer (some ⟨bx,0,none⟩)] (.int .i64 (a_ kd n y)) w:=by
 refine wid ?_;have E:i<m:=by rw[<-hs.len];exact(bu.1 hy).1
 have C:(i:Int)<(m:Int):=pj;have F:=hs.small;obtain⟨b,o,B,G,u,rfl,⟨g,D,p,q,r⟩,-,hys⟩:=hs.qQ hy;have d:Below w w w.drew:=pE.drew;have t:=Hd (ih (hys.go d) (L.go d));have v:=ah h4;have f1:=ah L.lk;have H:=ah g;have I:=ah D;have J:=ah p;have N:=ah q;have O:=ah r;clear h4 L hs hy ih g D p q r hys;refine ent func169 ntmps169 ?_;gi_wp2;refine iF [] 7 1 [0,1,2,3,4,5,6] pk pk rfl ?_;refine eH ?_;refine aH fun K f=>aA rfl rfl wy fun z j=>?_;gi_wp2;refine Cl 168 t.out ?_;rintro e P ⟨rfl,s⟩;refine j _ _ ⟨?_,f _ _ ?_⟩;clear j z f K;·exact bq s _
 refine lit ?_;refine aK ?_;refine jW fun K f z j=>?_;gi_wp2;refine et _ ?_;gi_wp2;go_ret;exact⟨rfl,d.trans (s.mono d.size)⟩
theorem aeH(hk:kd=2\/kd=3\/kd=4\/kd=5):∀(x:aU),(∀y,y∈iZ x->WOk y)->LkC b1 b2 kd n x:=by
 intro x
 induction x using iY with
 |_ x ih=>
 intro V M A m c w hs L;refine wid ?_;have ar:=hs.small;have aj:=hs.len;have q:=V x (by rw[lW];exact cw);unfold WOk at q;have hx:=ac6 kd n x;have HG:=Hd (fun(i:Nat) (y:aU) (h:x.l[i]?=some y)=>adu kd n h);have IH:=Hd (fun y (g:y∈x.l)=> @ih y g (fun z f=>V z (by rw[lW];exact bE _ (qF g f))));obtain⟨l,ac⟩:=aC x.l;rw[ac]at hs aj q hx HG IH;obtain⟨X,hX⟩:=aC (a_ kd n x);rw[hX]at hx |-;obtain⟨k,T⟩:=aC x.kind;obtain⟨nm,aa⟩:=aC x.name;obtain⟨xn,Y⟩:=aC x.n;obtain⟨xd,ab⟩:=aC x.d;rw[T,Y]at q hx;rw[T,aa,Y,ab];have HX:=Hd hx;obtain⟨W1,am,F1⟩:=dR ((Fr.nil w).a w [k,nm,xn,xd,.slice A m c] 66);have F:=Hd F1;have H:=Hd (hs.go F1.bl);have B:=Hd (L.go F1.bl);clear ih V ac hX T aa Y ab hs hx F1 L;have W:=F.out;refine op1 W ?_;intros;clear W;have aq:∀(fn:Fn) (first cap:Array Value) (w:World),(Instr.makeFunc fn first cap).run prog w=.ok (.func fn first cap) w:=fun _ _ _ _=>rfl;have l0:=B.out.k0;have l1:=B.out.k1;by_cases o:k=2\/k=5
 ·clear q;by_cases G:k=kd
  ·subst G;by_cases R:xn=n
   ·subst R;have ad:X=1:=by rw[HX.out];rcases o with rfl|rfl<;>simp[opW]
    exact JK
   have I:X=0:=by rw[HX.out];rcases o with rfl|rfl<;>simp[opW,R]
   have hb:(xn==n)=false:=by simpa using R
   exact JK
  have I:X=0:=by rw[HX.out];rcases o with rfl|rfl<;>simp[opW,G]
  have hb:(k==kd)=false:=by simpa using G
  clear HX;rcases o with rfl|rfl
  all_goals
   refine ent func168 ntmps168 ?_;gi_wp2;go_ret;exact⟨by rw[I];rfl,F.out.bl⟩
 by_cases r:k=3\/k=4
 ·clear q;by_cases G:k=kd
  ·subst G;have ad:X=1:=by rw[HX.out];rcases r with rfl|rfl<;>simp[opW]
   clear HX;rcases r with rfl|rfl
   all_goals
    refine ent func168 ntmps168 ?_;gi_wp2;go_ret;exact⟨rfl,F.out.bl⟩
  have I:X=0:=by rw[HX.out];rcases r with rfl|rfl<;>simp[opW,G]
  have hb:(k==kd)=false:=by simpa using G
  clear HX;rcases r with rfl|rfl
  all_goals
   refine ent func168 ntmps168 ?_;gi_wp2;go_ret;exact⟨by rw[I];rfl,F.out.bl⟩
 by_cases s:k=6\/k=9\/k=10
 ·have ai:l.length=2:=q.1 pj;rw[adv s]at HX;obtain⟨y,g⟩:=dW l 0 pj;obtain⟨z,f⟩:=dW l 1 pj;have HY:=Hd2 g f;have t:=HG.out 0 y g;have v:=HG.out 1 z f;have E:=Hd2 t v;clear t v g f;clear q o r hk;rcases s with rfl|rfl|rfl
  all_goals
   refine ent func168 ntmps168 ?_;gi_wp2;refine Cl 169 (aah (i:=0) (F.out.aQ 0 4) B.out H.out HY.a (IH.out _ (bh HY.a))) ?_;rintro e Z ⟨rfl,hb⟩;have p:=Hd (F.out.go hb);have D:=Hd (B.out.go hb);have C:=Hd (H.out.go hb);have W:=p.out;refine op1 W ?_;intros;clear W hb;gi_wp2;refine Cl 169 (aah (i:=1) (p.out.aQ 0 4) D.out C.out HY.u (IH.out _ (bh HY.u))) ?_;rintro e w3 ⟨rfl,hb⟩;have F3:=Hd (p.out.go hb);have P:=Hd (D.out.go hb);have O:=Hd (C.out.go hb);have W:=F3.out;refine op1 W ?_;intros;clear W hb;gi_wp2;refine Cl 170 (abn (aam _ _ _) (aam _ _ _)) ?_;rintro e w4 ⟨rfl,hb4⟩;gi_wp2;go_ret;exact⟨by rw[HX.out,E.a,E.u];rfl,F3.out.bl.trans (hb4.mono F3.out.bl.size)⟩
 by_cases J:k=7;·subst J;have ai:l.length=2:=q.1 pj;rw[aem]at HX;obtain⟨y,g⟩:=dW l 0 pj;obtain⟨z,f⟩:=dW l 1 pj;have HY:=Hd2 g f;have t:=HG.out 0 y g;have v:=HG.out 1 z f;have E:=Hd2 t v;clear t v g f;clear q o r s hk;refine ent func168 ntmps168 ?_;gi_wp2;refine Cl 169 (aah (i:=0) (F.out.aQ 0 4) B.out H.out HY.a (IH.out _ (bh HY.a))) ?_;rintro e Z ⟨rfl,hb⟩;have p:=Hd (F.out.go hb);have D:=Hd (B.out.go hb);have C:=Hd (H.out.go hb);have W:=p.out;refine op1 W ?_;intros;clear W hb;gi_wp2;refine Cl 169 (aah (i:=1) (p.out.aQ 0 4) D.out C.out HY.u (IH.out _ (bh HY.u))) ?_;rintro e w3 ⟨rfl,hb⟩;have F3:=Hd (p.out.go hb);have P:=Hd (D.out.go hb);have O:=Hd (C.out.go hb);have W:=F3.out;refine op1 W ?_;intros;clear W hb;gi_wp2;refine Cl 171 (aeG (aam _ _ _)) ?_;rintro e w4 ⟨rfl,hb4⟩;gi_wp2;refine Cl 170 (abn (aam _ _ _) (afb (aam _ _ _))) ?_;rintro e w5 ⟨rfl,ag⟩;have q4:=F3.out.bl.trans (hb4.mono F3.out.bl.size);gi_wp2;go_ret;exact⟨by rw[HX.out,E.a,E.u];rfl,q4.trans (ag.mono q4.size)⟩
 by_cases K:k=8
 ·subst K;obtain⟨ao,au⟩:=q.2.1 rfl;rw[acR]at HX;clear q o r s J hk;by_cases hp:0<xn;·obtain⟨y,g⟩:=dW l 0 pj;have E:=Hd (HG.out 0 y g);refine ent func168 ntmps168 ?_;gi_wp2;refine Cl 169 (aah (i:=0) (F.out.aQ 0 4) B.out H.out g (IH.out _ (bh g))) ?_;rintro e Z ⟨rfl,hb⟩;have p:=Hd (F.out.go hb);have D:=Hd (B.out.go hb);have C:=Hd (H.out.go hb);have W:=p.out;refine op1 W ?_;intros;clear W hb;gi_wp2;go_ret;exact⟨by rw[HX.out,if_pos hp,E.out];rfl,p.out.bl⟩
  refine ent func168 ntmps168 ?_;gi_wp2;go_ret;exact⟨by rw[HX.out,if_neg pj];rfl,F.out.bl⟩
 by_cases N:k=11
 ·subst N;have ap:=q.2.2 rfl;rw[afc]at HX;obtain⟨y,g⟩:=dW l 0 pj;obtain⟨z,f⟩:=dW l 1 pj;have HY:=Hd2 g f;have t:=HG.out 0 y g;have v:=HG.out 1 z f;have E:=Hd2 t v;clear t v g f;clear q o r s J K hk;have wy:=aam kd n y;have wz:=aam kd n z;have wj:=ad1 wy wz;obtain⟨j,S⟩:=aC (jnW (a_ kd n y) (a_ kd n z));rw[E.a,E.u,S]at HX;refine ent func168 ntmps168 ?_;gi_wp2;refine Cl 169 (aah (i:=0) (F.out.aQ 0 4) B.out H.out HY.a (IH.out _ (bh HY.a))) ?_;rintro e Z ⟨rfl,hb⟩;have p:=Hd (F.out.go hb);have D:=Hd (B.out.go hb);have C:=Hd (H.out.go hb);have W:=p.out;refine op1 W ?_;intros;clear W hb;gi_wp2;refine Cl 169 (aah (i:=1) (p.out.aQ 0 4) D.out C.out HY.u (IH.out _ (bh HY.u))) ?_;rintro e w3 ⟨rfl,hb⟩;have F3:=Hd (p.out.go hb);have P:=Hd (D.out.go hb);have O:=Hd (C.out.go hb);have W:=F3.out;refine op1 W ?_;intros;clear W hb;gi_wp2;refine Cl 170 (abn wy wz) ?_;rintro e w4 ⟨rfl,hb4⟩;rw[S];have F4:=Hd (F3.out.go hb4);have L4:=Hd (P.out.go hb4);have H4:=Hd (O.out.go hb4);have W:=F4.out;refine op1 W ?_;intros;clear W hb4 wy wz wj S HY E;by_cases Q:j=0
  ·subst Q;obtain⟨y,g⟩:=dW l 2 pj;obtain⟨z,f⟩:=dW l 3 pj;have HY:=Hd2 g f;have t:=HG.out 2 y g;have v:=HG.out 3 z f;have E:=Hd2 t v;clear t v g f;have af:X=jnW ((acJ kd n l).getD 2 0) ((acJ kd n l).getD 3 0):=by rw[HX.out];exact if_pos rfl
   clear HX;gi_wp2;refine Cl 169 (aah (i:=2) (F4.out.aQ 0 4) L4.out H4.out HY.a (IH.out _ (bh HY.a))) ?_;rintro e w5 ⟨rfl,hb⟩;have F5:=Hd (F4.out.go hb);have L5:=Hd (L4.out.go hb);have H5:=Hd (H4.out.go hb);have W:=F5.out;refine op1 W ?_;intros;clear W hb;gi_wp2;refine Cl 169 (aah (i:=3) (F5.out.aQ 0 4) L5.out H5.out HY.u (IH.out _ (bh HY.u))) ?_;rintro e w6 ⟨rfl,hb⟩;have F6:=Hd (F5.out.go hb);have L6:=Hd (L5.out.go hb);have H6:=Hd (H5.out.go hb);have W:=F6.out;refine op1 W ?_;intros;clear W hb;gi_wp2;refine Cl 170 (abn (aam _ _ _) (aam _ _ _)) ?_;rintro e w7 ⟨rfl,ah⟩;gi_wp2;go_ret;exact⟨by rw[af,E.a,E.u];rfl,F6.out.bl.trans (ah.mono F6.out.bl.size)⟩
  have an:(j==0)=false:=by simpa using Q
  have ae:X=3:=by rw[HX.out];exact if_neg Q
  clear HX;gi_wp2;go_ret;exact⟨by rw[ae];rfl,F4.out.bl⟩
 clear q H;rw[not_or]at o r;rw[not_or,not_or]at s;have b2:(k==2)=false:=by simpa using o.1
 have b3:(k==3)=false:=by simpa using r.1
 have b4:(k==4)=false:=by simpa using r.2
 have b5:(k==5)=false:=by simpa using o.2
 have b6:(k==6)=false:=by simpa using s.1
 have b9:(k==9)=false:=by simpa using s.2.1
 have ak:(k==10)=false:=by simpa using s.2.2
 have b7:(k==7)=false:=by simpa using J
 have b8:(k==8)=false:=by simpa using K
 have al:(k==11)=false:=by simpa using N
 have I:X=0:=by rw[HX.out];simp[opW,o.1,o.2,r.1,r.2,s.1,s.2.1,s.2.2,J,K,N]
 clear HX o r s J K N hk;refine ent func168 ntmps168 ?_;gi_wp2;go_ret;exact⟨by rw[I];rfl,F.out.bl⟩
theorem afp(hk:kd=2\/kd=3\/kd=4\/kd=5)(hx:∀y,y∈iZ x->WOk y)(hs:Sl aU w M A m c x.l):
 CB 119 #[.agg #[x.kind,x.name,x.n,x.d,.slice A m c],.agg #[kd,n]] (.int .i64 (a_ kd n x)) w:=by
 refine wid ?_;have p:∀(fn:Fn) (first cap:Array Value) (w:World),(Instr.makeFunc fn first cap).run prog w=.ok (.func fn first cap) w:=fun _ _ _ _=>rfl;obtain⟨W1,B,F1⟩:=dR (((Fr.nil w).a w [x.kind,x.name,x.n,x.d,.slice A m c] 66).a (w+1) [kd,n] 168);obtain⟨j,o,g,f⟩:=fP (w:=W1) (F1.a W1 [.func (.func 168) #[] #[.pointer (some ⟨W1,0,none⟩),.pointer (some ⟨w+1,0,none⟩)]] 220);have F:=Hd f;have L:LkS j W1.heap.size (w.heap.size+1) kd n:=⟨f.aQ 2 0,f.aQ 1 0,f.aQ 1 1⟩;have t:=Hd (aeH hk x hx ((hs.go F1.bl).go g) L);clear hs F1 f L g hk hx;have W:=F.out;refine op1 W ?_;intros;clear W;refine ent func119 ntmps119 ?_;gi_wp2;refine Cl 168 t.out ?_;rintro e J ⟨rfl,q⟩;gi_wp2;go_ret;exact⟨rfl,F.out.bl.trans (q.mono F.out.bl.size)⟩
end
