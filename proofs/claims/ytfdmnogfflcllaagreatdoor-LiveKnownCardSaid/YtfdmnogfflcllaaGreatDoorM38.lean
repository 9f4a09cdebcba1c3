/- Lemmas. -/
import Derived.Test.YtfdmnogfflcllaaGreatDoorM22
import Derived.Test.YtfdmnogfflcllaaGreatDoorM11
set_option linter.unusedVariables false
set_option linter.unusedSimpArgs false
set_option maxRecDepth 100000
set_option maxHeartbeats 20000000
namespace Go.Proofs.YtfdmnogfflcllaaGreatDoor
open Go.Proofs.Tryz
theorem DV{p:Prop}(h:p:=by
 by_cases en:xn=n;·subst en;refine ent func160 rfl ntmps160 ?_;gi_wp2;go_ret;exact⟨by rw[HX.out];simp[opW],F.out.bl⟩
 refine ent func160 rfl ntmps160 ?_;gi_wp2;go_ret;exact⟨by rw[HX.out];simp[opW,en],F.out.bl⟩):p:=h
theorem EL{p:Prop}(h:p:=by
 clear r H;rcases hw with⟨rfl,rfl⟩|⟨rfl,rfl⟩|⟨rfl,rfl⟩|⟨rfl,rfl⟩
 all_goals
  refine ent func160 rfl ntmps160 ?_;gi_wp2;go_ret;exact⟨by rw[HX.out];simp[opW],F.out.bl⟩):p:=h
theorem Iy{p:Prop}(h:p:=by
 clear HX;rcases o with rfl|rfl
 all_goals
  refine ent func168 rfl ntmps168 ?_;gi_wp2;go_ret;exact⟨rfl,F.out.bl⟩):p:=h
theorem TT{p:Prop}(h:p:=by refine ent func195 rfl ntmps195 ?_;gi_wp2;go_ret;exact⟨by simp[jnW,d],bw _ _⟩):p:=h
theorem Uj{p:Prop}(h:p:=by refine ent func196 rfl ntmps196 ?_;gi_wp2;go_ret;exact⟨by simp[tnW],bw _ _⟩):p:=h
variable {a b kd n k xn:Int}{l:List Int}{i b1 b2 m c:Nat}{x:aU}{w:World}{M:List Nat}{A:Option Addr}
def jnW(a b:Int):Int:=if a=0 then b else if b=0\/a=b then a else 3
def tnW(a:Int):Int:=if a=1 then 2 else if a=2 then 1 else a
def opW(kd n k xn:Int)(l:List Int):Int:=
 if k=2\/k=5 then(if k=kd/\xn=n then 1 else 0)
 else if k=3\/k=4 then(if k=kd then 1 else 0)
 else if k=6\/k=9\/k=10 then jnW (l.getD 0 0) (l.getD 1 0)
 else if k=7 then jnW (l.getD 0 0) (tnW (l.getD 1 0))
 else if k=8 then(if 0<xn then l.getD 0 0 else 0)
 else if k=11 then(if jnW (l.getD 0 0) (l.getD 1 0)=0 then jnW (l.getD 2 0) (l.getD 3 0)else 3)
 else 0
mutual
def aL(kd n:Int):aU->Int
 | .mk k _ xn _ l=>opW kd n k xn (acy kd n l)
def acy(kd n:Int):List aU->List Int
 | []=> []
 |x::l=>aL kd n x::acy kd n l
end
theorem acX(kd n:Int)(x:aU):aL kd n x=opW kd n x.kind x.n (acy kd n x.l):=by cases x;rw[aL];rfl
theorem ab6(kd n:Int):∀l,acy kd n l=l.map (aL kd n)
 | []=>rfl
 |x::l=>by rw[acy,ab6 kd n l];rfl
def IsW(a:Int):Prop:=a=0\/a=1\/a=2\/a=3
theorem adI(ha:IsW a)(hb:IsW b):IsW (jnW a b):=by rcases ha with rfl|rfl|rfl|rfl<;>rcases hb with rfl|rfl|rfl|rfl<;>simp[jnW,IsW]
theorem aeV(ha:IsW a):IsW (tnW a):=by rcases ha with rfl|rfl|rfl|rfl<;>simp[tnW,IsW]
theorem afA(h:∀x,x∈l->IsW x)(i:Nat):IsW (l.getD i 0):=by
 rw[cx]
 cases e:l[i]? with
 |none=>exact .inl rfl
 |some x=>exact h x (aR e)
theorem agV(h:∀x,x∈l->IsW x):IsW (opW kd n k xn l):=by
 have g:=afA h;unfold opW
 repeat' split
 all_goals first
  |exact adI (g _) (g _)
  |exact adI (g _) (aeV (g _))
  |exact g _
  |exact .inl rfl
  |exact .inr (.inl rfl)
  |exact .inr (.inr (.inr rfl))
theorem aaj(kd n:Int)(x:aU):IsW (aL kd n x):=by
 induction x using iY with
 |_ x ih=>rw[acX,ab6];exact agV fun y g=>by obtain⟨z,d,rfl⟩:=ev.1 g;exact ih z d
theorem adf(kd n:Int){l:List aU}(h:l[i]?=some x):(acy kd n l).getD i 0=aL kd n x:=by rw[ab6,cx,cP,h];rfl
theorem adg(h:k=6\/k=9\/k=10):opW kd n k xn l=jnW (l.getD 0 0) (l.getD 1 0):=by rcases h with rfl|rfl|rfl<;>rfl
theorem ad1:opW kd n 7 xn l=jnW (l.getD 0 0) (tnW (l.getD 1 0)):=rfl
theorem acM:opW kd n 8 xn l=if 0<xn then l.getD 0 0 else 0:=rfl
theorem aeW:opW kd n 11 xn l=if jnW (l.getD 0 0) (l.getD 1 0)=0 then jnW (l.getD 2 0) (l.getD 3 0)else 3:=rfl
theorem adh(ha:IsW a)(hb:IsW b):jnW a b=0↔a=0/\b=0:=by rcases ha with rfl|rfl|rfl|rfl<;>rcases hb with rfl|rfl|rfl|rfl<;>simp[jnW]
def aaL(nc k:Nat)(x:aU):List Int:=(List.range nc).map (fun i=>aL 2 (i:Nat) x)++ [aL 3 0 x,aL 4 0 x]++(List.range k).map (fun i=>aL 5 (i:Nat) x)
def aa6(nc:Nat)(l:List Int):Bool:=(List.range l.length).all fun i=>decide (l.getD i 0=0)||decide (l.getD i 0=if i=nc+1 then 2 else 1)
section
open Go.RowKit Go.Shelf
attribute [local go_sem] cK
def WOk(y:aU):Prop:=(y.kind=6\/y.kind=7\/y.kind=9\/y.kind=10->y.l.length=2)/\(y.kind=8->y.l.length=1/\0<=y.n)/\(y.kind=11->y.l.length=4)
theorem abM:CB 195 #[.int .i64 a,.int .i64 b] (.int .i64 (jnW a b)) w:=by
 refine wid ?_;by_cases d:a=0;·subst d;refine ent func195 rfl ntmps195 ?_;gi_wp2;go_ret;exact⟨by simp[jnW],bw _ _⟩
 by_cases e:b=0;·subst e;exact TT
 by_cases r:a=b;·subst r;exact TT
 have P:(b==0)=false:=by simpa using e
 have f:(a==b)=false:=by simpa using r
 refine ent func195 rfl ntmps195 ?_;gi_wp2;go_ret;exact⟨by simp[jnW,d,e,r],bw _ _⟩
theorem ael:CB 196 #[.int .i64 a] (.int .i64 (tnW a)) w:=by
 refine wid ?_;by_cases d:a=1;·subst d;exact Uj
 by_cases e:a=2;·subst e;exact Uj
 refine ent func196 rfl ntmps196 ?_;gi_wp2;go_ret;exact⟨by simp[tnW,d,e],bw _ _⟩
theorem abA{what:Int}(hw:what=0/\kd=2\/what=1/\kd=3\/what=2/\kd=4\/what=3/\kd=5):∀(x:aU),(∀y,y∈iZ x->WOk y)->∀{M:List Nat}{A:Option Addr}{m c:Nat}{w:World},Sl aU w M A m c x.l->
 CB 160 #[.agg #[.int .i64 x.kind,.string x.name,.int .i64 x.n,.int .i64 x.d,.slice A m c],.int .i64 what,.int .i64 n] (.int .i64 (aL kd n x)) w:=by
 intro x
 induction x using iY with
 |_ x ih=>
 intro al M A m c w hs;refine wid ?_;have aI:=hs.small;have az:=hs.len;have r:=al x (by rw[lW];exact cd);unfold WOk at r;have hx:=acX kd n x;have HG:=Hd (fun(i:Nat) (y:aU) (h:x.l[i]?=some y)=>adf kd n h);have IH:=Hd (fun y (j:y∈x.l)=> @ih y j (fun z q=>al z (by rw[lW];exact bz _ (qF j q))));obtain⟨l,au⟩:=aC x.l;rw[au]at hs az r hx HG IH;obtain⟨X,hX⟩:=aC (aL kd n x);rw[hX]at hx |-;obtain⟨k,ak⟩:=aC x.kind;obtain⟨nm,aq⟩:=aC x.name;obtain⟨xn,am⟩:=aC x.n;obtain⟨xd,ar⟩:=aC x.d;rw[ak,am]at r hx;rw[ak,aq,am,ar];have HX:=Hd hx;obtain⟨W1,aE,F1⟩:=dR ((Fr.nil w).a w [.int .i64 k,.string nm,.int .i64 xn,.int .i64 xd,.slice A m c] 66);have F:=Hd F1;have H:=Hd (hs.go F1.bl);clear ih al au hX ak aq am ar hs hx F1;have FO:=F.out;refine op1 FO ?_;intros;clear FO;by_cases T:k=2
 ·subst T;clear r H;rcases hw with⟨rfl,rfl⟩|⟨rfl,rfl⟩|⟨rfl,rfl⟩|⟨rfl,rfl⟩;·exact DV
  all_goals
   refine ent func160 rfl ntmps160 ?_;gi_wp2;go_ret;exact⟨by rw[HX.out];simp[opW],F.out.bl⟩
 by_cases U:k=3;·subst U;exact EL
 by_cases W:k=4;·subst W;exact EL
 by_cases Y:k=5
 ·subst Y;clear r H;rcases hw with⟨rfl,rfl⟩|⟨rfl,rfl⟩|⟨rfl,rfl⟩|⟨rfl,rfl⟩;rotate_left 3;·exact DV
  all_goals
   refine ent func160 rfl ntmps160 ?_;gi_wp2;go_ret;exact⟨by rw[HX.out];simp[opW],F.out.bl⟩
 by_cases N:k=6\/k=9\/k=10
 ·have ay:l.length=2:=r.1 oE;obtain rfl:m=2:=oE;rw[adg N]at HX;obtain⟨y,j⟩:=dW l 0 oE;obtain⟨z,q⟩:=dW l 1 oE;obtain⟨b,o,B,n1,d1,G,⟨R,s,t,v,D⟩,-,hys⟩:=H.out.qQ j;cases G;obtain⟨b',o',B2,n2,d2,e2,⟨E,I,P,J,L⟩,-,hzs⟩:=H.out.qQ q;cases e2;simp only[fN,fi,ed,dm,Nat.reduceMul]at R s t v D E I P J L;have f4:=ah (F.out.aQ 0 4);have u0:=ah R;have u1:=ah s;have u2:=ah t;have u3:=ah v;have u4:=ah D;have v0:=ah E;have v1:=ah I;have v2:=ah P;have v3:=ah J;have v4:=ah L;have Q:Below W1 W1 W1.drew:=pd.drew;have C:=Hd2 (IH.out y (aR j) (hys.go Q)) (fun V (hV:Below W1.drew.heap.size W1.drew V)=>IH.out z (aR q) (hzs.go (Q.trans hV)));have O:=HG.out 0 y j;have G:=HG.out 1 z q;have S:=Hd2 O G;clear j q R s t v D E I P J L hys hzs Q O G;clear r T U W Y;rcases N with rfl|rfl|rfl
  all_goals
   refine ent func160 rfl ntmps160 ?_;gi_wp2;refine iF [] 15 1 [0,1,2,3,4,5,7,8,9,10,11,12,6,13,14] oF oF rfl ?_;refine eH ?_;refine aH fun K f=>aA rfl rfl wy fun p g=>?_;gi_wp2;refine Cl 160 C.a ?_;rintro e w2 ⟨rfl,aa⟩;refine g _ _ ⟨?_,f _ _ ?_⟩;clear g p f K;·exact a_ aa _
   refine lit ?_;refine eH ?_;refine aH fun K f=>aA rfl rfl wy fun p g=>?_;gi_wp2;refine Cl 160 (C.u w2 aa) ?_;rintro e w3 ⟨rfl,ac⟩;refine g _ _ ⟨?_,f _ _ ?_⟩;clear g p f K;·exact a_ ac _
   refine lit ?_;refine eH ?_;refine aH fun K f=>aA rfl rfl wy fun p g=>?_;gi_wp2;refine Cl 195 abM ?_;rintro e w4 ⟨rfl,hb4⟩;refine g _ _ ⟨?_,f _ _ ?_⟩;clear g p f K;·exact a_ hb4 _
   refine lit ?_;refine aK ?_;refine jW fun K f p g=>?_;gi_wp2;refine dC _ ?_;gi_wp2;go_ret;have Z:=F.out.drew.bl;have q2:=Z.trans (aa.mono Z.size);have q3:=q2.trans (ac.mono q2.size);exact⟨by rw[HX.out,S.a,S.u];rfl,q3.trans (hb4.mono q3.size)⟩
 by_cases k7:k=7
 ·subst k7;have ay:l.length=2:=r.1 oE;obtain rfl:m=2:=oE;rw[ad1]at HX;obtain⟨y,j⟩:=dW l 0 oE;obtain⟨z,q⟩:=dW l 1 oE;obtain⟨b,o,B,n1,d1,G,⟨R,s,t,v,D⟩,-,hys⟩:=H.out.qQ j;cases G;obtain⟨b',o',B2,n2,d2,e2,⟨E,I,P,J,L⟩,-,hzs⟩:=H.out.qQ q;cases e2;simp only[fN,fi,ed,dm,Nat.reduceMul]at R s t v D E I P J L;have f4:=ah (F.out.aQ 0 4);have u0:=ah R;have u1:=ah s;have u2:=ah t;have u3:=ah v;have u4:=ah D;have v0:=ah E;have v1:=ah I;have v2:=ah P;have v3:=ah J;have v4:=ah L;have Q:Below W1 W1 W1.drew:=pd.drew;have C:=Hd2 (IH.out y (aR j) (hys.go Q)) (fun V (hV:Below W1.drew.heap.size W1.drew V)=>IH.out z (aR q) (hzs.go (Q.trans hV)));have O:=HG.out 0 y j;have G:=HG.out 1 z q;have S:=Hd2 O G;clear j q R s t v D E I P J L hys hzs Q O G;clear r T U W Y N;refine ent func160 rfl ntmps160 ?_;gi_wp2;refine iF [] 16 1 [0,1,2,3,4,5,7,8,9,10,11,12,6,13,14,15] oF oF rfl ?_;refine eH ?_;refine aH fun K f=>aA rfl rfl wy fun p g=>?_;gi_wp2;refine Cl 160 C.a ?_;rintro e w2 ⟨rfl,aa⟩;refine g _ _ ⟨?_,f _ _ ?_⟩;clear g p f K;·exact a_ aa _
  refine lit ?_;refine eH ?_;refine aH fun K f=>aA rfl rfl wy fun p g=>?_;gi_wp2;refine Cl 160 (C.u w2 aa) ?_;rintro e w3 ⟨rfl,ac⟩;refine g _ _ ⟨?_,f _ _ ?_⟩;clear g p f K;·exact a_ ac _
  refine lit ?_;refine eH ?_;refine aH fun K f=>aA rfl rfl wy fun p g=>?_;gi_wp2;refine Cl 196 ael ?_;rintro e w4 ⟨rfl,hb4⟩;refine g _ _ ⟨?_,f _ _ ?_⟩;clear g p f K;·exact a_ hb4 _
  refine lit ?_;refine eH ?_;refine aH fun K f=>aA rfl rfl wy fun p g=>?_;gi_wp2;refine Cl 195 abM ?_;rintro e w5 ⟨rfl,ao⟩;refine g _ _ ⟨?_,f _ _ ?_⟩;clear g p f K;·exact a_ ao _
  refine lit ?_;refine aK ?_;refine jW fun K f p g=>?_;gi_wp2;refine dC _ ?_;gi_wp2;go_ret;have Z:=F.out.drew.bl;have q2:=Z.trans (aa.mono Z.size);have q3:=q2.trans (ac.mono q2.size);have q4:=q3.trans (hb4.mono q3.size);exact⟨by rw[HX.out,S.a,S.u];rfl,q4.trans (ao.mono q4.size)⟩
 by_cases k8:k=8
 ·subst k8;obtain⟨aF,aJ⟩:=r.2.1 rfl;obtain rfl:m=1:=oE;rw[acM]at HX;clear r T U W Y N k7;by_cases hp:0<xn;·obtain⟨y,j⟩:=dW l 0 oE;obtain⟨b,o,B,n1,d1,rfl,⟨R,s,t,v,D⟩,-,hys⟩:=H.out.qQ j;simp only[fN,ed]at R s t v D;have C:=Hd (IH.out y (aR j) hys);have S:=Hd (HG.out 0 y j);have aM:(xn==0)=false:=oS;clear j hys;refine ent func160 rfl ntmps160 ?_;gi_wp2;refine Cl 160 C.out ?_;rintro e w2 ⟨rfl,ab⟩;gi_wp2;go_ret;exact⟨by rw[HX.out,if_pos hp,S.out];rfl,F.out.bl.trans (ab.mono F.out.bl.size)⟩
  obtain rfl:xn=0:=oE;refine ent func160 rfl ntmps160 ?_;gi_wp2;go_ret;exact⟨by rw[HX.out];simp,F.out.bl⟩
 by_cases ad:k=11
 ·subst ad;have aG:=r.2.2 rfl;obtain rfl:m=4:=oE;rw[aeW]at HX;clear r T U W Y N k7 k8;obtain⟨y,j⟩:=dW l 0 oE;obtain⟨z,q⟩:=dW l 1 oE;obtain⟨b,o,B,n1,d1,rfl,⟨R,s,t,v,D⟩,-,hys⟩:=H.out.qQ j;simp only[fN,ed]at R s t v D;have C:=Hd (IH.out y (aR j) hys);have O:=HG.out 0 y j;have G:=HG.out 1 z q;have wy:=aaj kd n y;have wz:=aaj kd n z;obtain⟨a,ha⟩:=aC (aL kd n y);obtain⟨a',ai⟩:=aC (aL kd n z);rw[ha]at O C wy;rw[ai]at G wz;rw[O,G]at HX;have HW:=Hd2 wy wz;have HZ:=Hd2 q ai;clear j hys O G wy wz q ha ai;refine ent func160 rfl ntmps160 ?_;gi_wp2;refine Cl 160 C.out ?_;rintro e w2 ⟨rfl,ab⟩;have F2:=Hd (F.out.go ab);have H2:=Hd (H.out.go ab);clear ab R s t v D;by_cases ea:a=0
  ·subst ea;have FO:=F2.out;refine op1 FO ?_;intros;clear FO;obtain⟨b',o',B2,n2,d2,e2,⟨E,I,P,J,L⟩,-,hzs⟩:=H2.out.qQ HZ.a;cases e2;simp only[fi]at E I P J L;have ae:=Hd (IH.out z (aR HZ.a) hzs);rw[HZ.u]at ae;clear hzs;gi_wp2;refine Cl 160 ae.out ?_;rintro e w3 ⟨rfl,aj⟩;have F3:=Hd (F2.out.go aj);have H3:=Hd (H2.out.go aj);clear aj E I P J L;by_cases eb:a'=0
   ·subst eb;obtain⟨y,j⟩:=dW l 2 oE;obtain⟨z,q⟩:=dW l 3 oE;obtain⟨b,o,B,n1,d1,G,⟨R,s,t,v,D⟩,-,hys⟩:=H3.out.qQ j;cases G;obtain⟨b',o',B2,n2,d2,e2,⟨E,I,P,J,L⟩,-,hzs⟩:=H3.out.qQ q;cases e2;simp only[fN,fi,ed,dm,Nat.reduceMul]at R s t v D E I P J L;have f4:=ah (F3.out.aQ 0 4);have u0:=ah R;have u1:=ah s;have u2:=ah t;have u3:=ah v;have u4:=ah D;have v0:=ah E;have v1:=ah I;have v2:=ah P;have v3:=ah J;have v4:=ah L;have Q:Below w3 w3 w3.drew:=pd.drew;have C:=Hd2 (IH.out y (aR j) (hys.go Q)) (fun V (hV:Below w3.drew.heap.size w3.drew V)=>IH.out z (aR q) (hzs.go (Q.trans hV)));have O:=HG.out 2 y j;have G:=HG.out 3 z q;have S:=Hd2 O G;clear j q R s t v D E I P J L hys hzs Q O G;gi_wp2;refine iF [] 15 1 [0,1,2,3,4,5,7,8,9,10,11,12,6,13,14] oF oF rfl ?_;refine eH ?_;refine aH fun K f=>aA rfl rfl wy fun p g=>?_;gi_wp2;refine Cl 160 C.a ?_;rintro e w4 ⟨rfl,af⟩;refine g _ _ ⟨?_,f _ _ ?_⟩;clear g p f K;·exact a_ af _
    refine lit ?_;refine eH ?_;refine aH fun K f=>aA rfl rfl wy fun p g=>?_;gi_wp2;refine Cl 160 (C.u w4 af) ?_;rintro e w5 ⟨rfl,an⟩;refine g _ _ ⟨?_,f _ _ ?_⟩;clear g p f K;·exact a_ an _
    refine lit ?_;refine eH ?_;refine aH fun K f=>aA rfl rfl wy fun p g=>?_;gi_wp2;refine Cl 195 abM ?_;rintro e w6 ⟨rfl,ap⟩;refine g _ _ ⟨?_,f _ _ ?_⟩;clear g p f K;·exact a_ ap _
    refine lit ?_;refine aK ?_;refine jW fun K f p g=>?_;gi_wp2;refine dC _ ?_;gi_wp2;go_ret;have Z:=F3.out.drew.bl;have q2:=Z.trans (af.mono Z.size);have q3:=q2.trans (an.mono q2.size);have aw:X=jnW ((acy kd n l).getD 2 0) ((acy kd n l).getD 3 0):=by rw[HX.out];exact if_pos rfl
    exact⟨by rw[aw,S.a,S.u];rfl,q3.trans (ap.mono q3.size)⟩
   have ax:(a'==0)=false:=by simpa using eb
   have ag:X=3:=by rw[HX.out];exact if_neg (fun h=>eb ((adh HW.a HW.u).1 h).2)
   clear HX HW HZ C ae;gi_wp2;go_ret;exact⟨by rw[ag];rfl,F3.out.bl⟩
  have ax:(a==0)=false:=by simpa using ea
  have ag:X=3:=by rw[HX.out];exact if_neg (fun h=>ea ((adh HW.a HW.u).1 h).1)
  clear HX HW HZ C;gi_wp2;refine⟨bq,?_⟩;gi_wp2;go_ret;exact⟨by rw[ag];rfl,F2.out.bl⟩
 clear r H;rw[not_or,not_or]at N;have b2:(k==2)=false:=by simpa using T
 have b3:(k==3)=false:=by simpa using U
 have b4:(k==4)=false:=by simpa using W
 have b5:(k==5)=false:=by simpa using Y
 have b6:(k==6)=false:=by simpa using N.1
 have b9:(k==9)=false:=by simpa using N.2.1
 have aB:(k==10)=false:=by simpa using N.2.2
 have b7:(k==7)=false:=by simpa using k7
 have b8:(k==8)=false:=by simpa using k8
 have aD:(k==11)=false:=by simpa using ad
 have av:X=0:=by rw[HX.out];simp[opW,T,U,W,Y,N.1,N.2.1,N.2.2,k7,k8,ad]
 clear HX T U W Y N k7 k8 ad;refine ent func160 rfl ntmps160 ?_;gi_wp2;go_ret;exact⟨by rw[av];rfl,F.out.bl⟩
theorem abh(ha:IsW a)(hb:IsW b):CB 170 #[.int .i64 a,.int .i64 b] (.int .i64 (jnW a b)) w:=by
 refine wid ?_;have e:∀(a b c d:Int) (w:World),(Instr.index 253 (.agg #[.int .i64 a,.int .i64 b,.int .i64 c,.int .i64 d]) (.int .i64 0)).run prog w=.ok (.int .i64 a) w:=fun _ _ _ _ _=>by kernel_rfl
 have f:∀(a b c d:Int) (w:World),(Instr.index 253 (.agg #[.int .i64 a,.int .i64 b,.int .i64 c,.int .i64 d]) (.int .i64 1)).run prog w=.ok (.int .i64 b) w:=fun _ _ _ _ _=>by kernel_rfl
 have g:∀(a b c d:Int) (w:World),(Instr.index 253 (.agg #[.int .i64 a,.int .i64 b,.int .i64 c,.int .i64 d]) (.int .i64 2)).run prog w=.ok (.int .i64 c) w:=fun _ _ _ _ _=>by kernel_rfl
 have h:∀(a b c d:Int) (w:World),(Instr.index 253 (.agg #[.int .i64 a,.int .i64 b,.int .i64 c,.int .i64 d]) (.int .i64 3)).run prog w=.ok (.int .i64 d) w:=fun _ _ _ _ _=>by kernel_rfl
 have j:∀w,(Instr.index 254 (.agg #[.int .i64 0,.int .i64 1,.int .i64 2,.int .i64 3,.int .i64 1,.int .i64 1,.int .i64 3,.int .i64 3,.int .i64 2,.int .i64 3,.int .i64 2,.int .i64 3,.int .i64 3,.int .i64 3,.int .i64 3,.int .i64 3]) (.int .i64 0)).run prog w=.ok (.agg #[.int .i64 0,.int .i64 1,.int .i64 2,.int .i64 3]) w:=fun _=>by kernel_rfl
 have o:∀w,(Instr.index 254 (.agg #[.int .i64 0,.int .i64 1,.int .i64 2,.int .i64 3,.int .i64 1,.int .i64 1,.int .i64 3,.int .i64 3,.int .i64 2,.int .i64 3,.int .i64 2,.int .i64 3,.int .i64 3,.int .i64 3,.int .i64 3,.int .i64 3]) (.int .i64 1)).run prog w=.ok (.agg #[.int .i64 1,.int .i64 1,.int .i64 3,.int .i64 3]) w:=fun _=>by kernel_rfl
 have p:∀w,(Instr.index 254 (.agg #[.int .i64 0,.int .i64 1,.int .i64 2,.int .i64 3,.int .i64 1,.int .i64 1,.int .i64 3,.int .i64 3,.int .i64 2,.int .i64 3,.int .i64 2,.int .i64 3,.int .i64 3,.int .i64 3,.int .i64 3,.int .i64 3]) (.int .i64 2)).run prog w=.ok (.agg #[.int .i64 2,.int .i64 3,.int .i64 2,.int .i64 3]) w:=fun _=>by kernel_rfl
 have q:∀w,(Instr.index 254 (.agg #[.int .i64 0,.int .i64 1,.int .i64 2,.int .i64 3,.int .i64 1,.int .i64 1,.int .i64 3,.int .i64 3,.int .i64 2,.int .i64 3,.int .i64 2,.int .i64 3,.int .i64 3,.int .i64 3,.int .i64 3,.int .i64 3]) (.int .i64 3)).run prog w=.ok (.agg #[.int .i64 3,.int .i64 3,.int .i64 3,.int .i64 3]) w:=fun _=>by kernel_rfl
 rcases ha with rfl|rfl|rfl|rfl<;>rcases hb with rfl|rfl|rfl|rfl
 all_goals
  refine ent func170 rfl ntmps170 ?_;gi_wp2;go_ret;exact⟨rfl,bw _ _⟩
theorem aem(ha:IsW a):CB 171 #[.int .i64 a] (.int .i64 (tnW a)) w:=by
 refine wid ?_;have e:∀(a b c d:Int) (w:World),(Instr.index 253 (.agg #[.int .i64 a,.int .i64 b,.int .i64 c,.int .i64 d]) (.int .i64 0)).run prog w=.ok (.int .i64 a) w:=fun _ _ _ _ _=>by kernel_rfl
 have f:∀(a b c d:Int) (w:World),(Instr.index 253 (.agg #[.int .i64 a,.int .i64 b,.int .i64 c,.int .i64 d]) (.int .i64 1)).run prog w=.ok (.int .i64 b) w:=fun _ _ _ _ _=>by kernel_rfl
 have g:∀(a b c d:Int) (w:World),(Instr.index 253 (.agg #[.int .i64 a,.int .i64 b,.int .i64 c,.int .i64 d]) (.int .i64 2)).run prog w=.ok (.int .i64 c) w:=fun _ _ _ _ _=>by kernel_rfl
 have h:∀(a b c d:Int) (w:World),(Instr.index 253 (.agg #[.int .i64 a,.int .i64 b,.int .i64 c,.int .i64 d]) (.int .i64 3)).run prog w=.ok (.int .i64 d) w:=fun _ _ _ _ _=>by kernel_rfl
 rcases ha with rfl|rfl|rfl|rfl
 all_goals
  refine ent func171 rfl ntmps171 ?_;gi_wp2;go_ret;exact⟨rfl,bw _ _⟩
structure LkS(w:World)(b1 b2:Nat)(kd n:Int):Prop where
 lk:w.cell? ⟨b1,0,none⟩=some (.func (.func 168) #[] #[.pointer (some ⟨b1,0,none⟩),.pointer (some ⟨b2,0,none⟩)])
 k0:w.cell? ⟨b2,0,none⟩=some (.int .i64 kd)
 k1:w.cell? ⟨b2,1,none⟩=some (.int .i64 n)
theorem LkS.go{w':World}(h:LkS w b1 b2 kd n)(hb:Below w w w'):LkS w' b1 b2 kd n:=⟨(hb.cell (bu w _ h.lk)).trans h.lk,(hb.cell (bu w _ h.k0)).trans h.k0,(hb.cell (bu w _ h.k1)).trans h.k1⟩
def LkC(b1 b2:Nat)(kd n:Int)(x:aU):Prop:=∀{M:List Nat}{A:Option Addr}{m c:Nat}{w:World},Sl aU w M A m c x.l->LkS w b1 b2 kd n->Calls prog 168 #[.agg #[.int .i64 x.kind,.string x.name,.int .i64 x.n,.int .i64 x.d,.slice A m c],.pointer (some ⟨b1,0,none⟩),.pointer (some ⟨b2,0,none⟩)] w fun e w'=>e=.returned (.int .i64 (aL kd n x))/\Below w w w'
theorem aae{bx:Nat}{l:List aU}{y:aU}(h4:w.cell? ⟨bx,4,none⟩=some (.slice A m c))(L:LkS w b1 b2 kd n)(hs:Sl aU w M A m c l)(hy:l[i]?=some y)(ih:LkC b1 b2 kd n y):
 CB 169 #[.int .i64 i,.pointer (some ⟨b1,0,none⟩),.pointer (some ⟨bx,0,none⟩)] (.int .i64 (aL kd n y)) w:=by
 refine wid ?_;have z:i<m:=by rw[<-hs.len];exact(bj.1 hy).1
 have v:(i:Int)<(m:Int):=oE;have C:=hs.small;obtain⟨b,o,B,D,s,rfl,⟨j,E,P,p,q⟩,-,hys⟩:=hs.qQ hy;have d:Below w w w.drew:=pd.drew;have t:=Hd (ih (hys.go d) (L.go d));have u:=ah h4;have f1:=ah L.lk;have F:=ah j;have G:=ah E;have H:=ah P;have I:=ah p;have J:=ah q;clear h4 L hs hy ih j E P p q hys;refine ent func169 rfl ntmps169 ?_;gi_wp2;refine iF [] 7 1 [0,1,2,3,4,5,6] oF oF rfl ?_;refine eH ?_;refine aH fun K f=>aA rfl rfl wy fun h g=>?_;gi_wp2;refine Cl 168 t.out ?_;rintro e N ⟨rfl,r⟩;refine g _ _ ⟨?_,f _ _ ?_⟩;clear g h f K;·exact a_ r _
 refine lit ?_;refine aK ?_;refine jW fun K f h g=>?_;gi_wp2;refine dC _ ?_;gi_wp2;go_ret;exact⟨rfl,d.trans (r.mono d.size)⟩
theorem aen(hk:kd=2\/kd=3\/kd=4\/kd=5):∀(x:aU),(∀y,y∈iZ x->WOk y)->LkC b1 b2 kd n x:=by
 intro x
 induction x using iY with
 |_ x ih=>
 intro V M A m c w hs L;refine wid ?_;have ar:=hs.small;have aj:=hs.len;have r:=V x (by rw[lW];exact cd);unfold WOk at r;have hx:=acX kd n x;have HG:=Hd (fun(i:Nat) (y:aU) (h:x.l[i]?=some y)=>adf kd n h);have IH:=Hd (fun y (g:y∈x.l)=> @ih y g (fun z f=>V z (by rw[lW];exact bz _ (qF g f))));obtain⟨l,ac⟩:=aC x.l;rw[ac]at hs aj r hx HG IH;obtain⟨X,hX⟩:=aC (aL kd n x);rw[hX]at hx |-;obtain⟨k,T⟩:=aC x.kind;obtain⟨nm,aa⟩:=aC x.name;obtain⟨xn,W⟩:=aC x.n;obtain⟨xd,ab⟩:=aC x.d;rw[T,W]at r hx;rw[T,aa,W,ab];have HX:=Hd hx;obtain⟨W1,am,F1⟩:=dR ((Fr.nil w).a w [.int .i64 k,.string nm,.int .i64 xn,.int .i64 xd,.slice A m c] 66);have F:=Hd F1;have H:=Hd (hs.go F1.bl);have B:=Hd (L.go F1.bl);clear ih V ac hX T aa W ab hs hx F1 L;have U:=F.out;refine op1 U ?_;intros;clear U;have aq:∀(fn:Fn) (first cap:Array Value) (w:World),(Instr.makeFunc fn first cap).run prog w=.ok (.func fn first cap) w:=fun _ _ _ _=>rfl;have l0:=B.out.k0;have l1:=B.out.k1;by_cases o:k=2\/k=5
 ·clear r;by_cases E:k=kd
  ·subst E;by_cases R:xn=n
   ·subst R;have ad:X=1:=by rw[HX.out];rcases o with rfl|rfl<;>simp[opW]
    exact Iy
   have I:X=0:=by rw[HX.out];rcases o with rfl|rfl<;>simp[opW,R]
   have hb:(xn==n)=false:=by simpa using R
   exact Iy
  have I:X=0:=by rw[HX.out];rcases o with rfl|rfl<;>simp[opW,E]
  have hb:(k==kd)=false:=by simpa using E
  clear HX;rcases o with rfl|rfl
  all_goals
   refine ent func168 rfl ntmps168 ?_;gi_wp2;go_ret;exact⟨by rw[I];rfl,F.out.bl⟩
 by_cases s:k=3\/k=4
 ·clear r;by_cases E:k=kd
  ·subst E;have ad:X=1:=by rw[HX.out];rcases s with rfl|rfl<;>simp[opW]
   clear HX;rcases s with rfl|rfl
   all_goals
    refine ent func168 rfl ntmps168 ?_;gi_wp2;go_ret;exact⟨rfl,F.out.bl⟩
  have I:X=0:=by rw[HX.out];rcases s with rfl|rfl<;>simp[opW,E]
  have hb:(k==kd)=false:=by simpa using E
  clear HX;rcases s with rfl|rfl
  all_goals
   refine ent func168 rfl ntmps168 ?_;gi_wp2;go_ret;exact⟨by rw[I];rfl,F.out.bl⟩
 by_cases t:k=6\/k=9\/k=10
 ·have ai:l.length=2:=r.1 oE;rw[adg t]at HX;obtain⟨y,g⟩:=dW l 0 oE;obtain⟨z,f⟩:=dW l 1 oE;have HY:=Hd2 g f;have v:=HG.out 0 y g;have G:=HG.out 1 z f;have q:=Hd2 v G;clear v G g f;clear r o s hk;rcases t with rfl|rfl|rfl
  all_goals
   refine ent func168 rfl ntmps168 ?_;gi_wp2;refine Cl 169 (aae (i:=0) (F.out.aQ 0 4) B.out H.out HY.a (IH.out _ (aR HY.a))) ?_;rintro e Y ⟨rfl,hb⟩;have p:=Hd (F.out.go hb);have D:=Hd (B.out.go hb);have C:=Hd (H.out.go hb);have U:=p.out;refine op1 U ?_;intros;clear U hb;gi_wp2;refine Cl 169 (aae (i:=1) (p.out.aQ 0 4) D.out C.out HY.u (IH.out _ (aR HY.u))) ?_;rintro e w3 ⟨rfl,hb⟩;have F3:=Hd (p.out.go hb);have P:=Hd (D.out.go hb);have O:=Hd (C.out.go hb);have U:=F3.out;refine op1 U ?_;intros;clear U hb;gi_wp2;refine Cl 170 (abh (aaj _ _ _) (aaj _ _ _)) ?_;rintro e w4 ⟨rfl,hb4⟩;gi_wp2;go_ret;exact⟨by rw[HX.out,q.a,q.u];rfl,F3.out.bl.trans (hb4.mono F3.out.bl.size)⟩
 by_cases J:k=7;·subst J;have ai:l.length=2:=r.1 oE;rw[ad1]at HX;obtain⟨y,g⟩:=dW l 0 oE;obtain⟨z,f⟩:=dW l 1 oE;have HY:=Hd2 g f;have v:=HG.out 0 y g;have G:=HG.out 1 z f;have q:=Hd2 v G;clear v G g f;clear r o s t hk;refine ent func168 rfl ntmps168 ?_;gi_wp2;refine Cl 169 (aae (i:=0) (F.out.aQ 0 4) B.out H.out HY.a (IH.out _ (aR HY.a))) ?_;rintro e Y ⟨rfl,hb⟩;have p:=Hd (F.out.go hb);have D:=Hd (B.out.go hb);have C:=Hd (H.out.go hb);have U:=p.out;refine op1 U ?_;intros;clear U hb;gi_wp2;refine Cl 169 (aae (i:=1) (p.out.aQ 0 4) D.out C.out HY.u (IH.out _ (aR HY.u))) ?_;rintro e w3 ⟨rfl,hb⟩;have F3:=Hd (p.out.go hb);have P:=Hd (D.out.go hb);have O:=Hd (C.out.go hb);have U:=F3.out;refine op1 U ?_;intros;clear U hb;gi_wp2;refine Cl 171 (aem (aaj _ _ _)) ?_;rintro e w4 ⟨rfl,hb4⟩;gi_wp2;refine Cl 170 (abh (aaj _ _ _) (aeV (aaj _ _ _))) ?_;rintro e w5 ⟨rfl,ag⟩;have q4:=F3.out.bl.trans (hb4.mono F3.out.bl.size);gi_wp2;go_ret;exact⟨by rw[HX.out,q.a,q.u];rfl,q4.trans (ag.mono q4.size)⟩
 by_cases K:k=8
 ·subst K;obtain⟨ao,au⟩:=r.2.1 rfl;rw[acM]at HX;clear r o s t J hk;by_cases hp:0<xn;·obtain⟨y,g⟩:=dW l 0 oE;have q:=Hd (HG.out 0 y g);refine ent func168 rfl ntmps168 ?_;gi_wp2;refine Cl 169 (aae (i:=0) (F.out.aQ 0 4) B.out H.out g (IH.out _ (aR g))) ?_;rintro e Y ⟨rfl,hb⟩;have p:=Hd (F.out.go hb);have D:=Hd (B.out.go hb);have C:=Hd (H.out.go hb);have U:=p.out;refine op1 U ?_;intros;clear U hb;gi_wp2;go_ret;exact⟨by rw[HX.out,if_pos hp,q.out];rfl,p.out.bl⟩
  refine ent func168 rfl ntmps168 ?_;gi_wp2;go_ret;exact⟨by rw[HX.out,if_neg oE];rfl,F.out.bl⟩
 by_cases N:k=11
 ·subst N;have ap:=r.2.2 rfl;rw[aeW]at HX;obtain⟨y,g⟩:=dW l 0 oE;obtain⟨z,f⟩:=dW l 1 oE;have HY:=Hd2 g f;have v:=HG.out 0 y g;have G:=HG.out 1 z f;have q:=Hd2 v G;clear v G g f;clear r o s t J K hk;have wy:=aaj kd n y;have Z:=aaj kd n z;have wj:=adI wy Z;obtain⟨j,S⟩:=aC (jnW (aL kd n y) (aL kd n z));rw[q.a,q.u,S]at HX;refine ent func168 rfl ntmps168 ?_;gi_wp2;refine Cl 169 (aae (i:=0) (F.out.aQ 0 4) B.out H.out HY.a (IH.out _ (aR HY.a))) ?_;rintro e Y ⟨rfl,hb⟩;have p:=Hd (F.out.go hb);have D:=Hd (B.out.go hb);have C:=Hd (H.out.go hb);have U:=p.out;refine op1 U ?_;intros;clear U hb;gi_wp2;refine Cl 169 (aae (i:=1) (p.out.aQ 0 4) D.out C.out HY.u (IH.out _ (aR HY.u))) ?_;rintro e w3 ⟨rfl,hb⟩;have F3:=Hd (p.out.go hb);have P:=Hd (D.out.go hb);have O:=Hd (C.out.go hb);have U:=F3.out;refine op1 U ?_;intros;clear U hb;gi_wp2;refine Cl 170 (abh wy Z) ?_;rintro e w4 ⟨rfl,hb4⟩;rw[S];have F4:=Hd (F3.out.go hb4);have L4:=Hd (P.out.go hb4);have H4:=Hd (O.out.go hb4);have U:=F4.out;refine op1 U ?_;intros;clear U hb4 wy Z wj S HY q;by_cases Q:j=0
  ·subst Q;obtain⟨y,g⟩:=dW l 2 oE;obtain⟨z,f⟩:=dW l 3 oE;have HY:=Hd2 g f;have v:=HG.out 2 y g;have G:=HG.out 3 z f;have q:=Hd2 v G;clear v G g f;have af:X=jnW ((acy kd n l).getD 2 0) ((acy kd n l).getD 3 0):=by rw[HX.out];exact if_pos rfl
   clear HX;gi_wp2;refine Cl 169 (aae (i:=2) (F4.out.aQ 0 4) L4.out H4.out HY.a (IH.out _ (aR HY.a))) ?_;rintro e w5 ⟨rfl,hb⟩;have F5:=Hd (F4.out.go hb);have L5:=Hd (L4.out.go hb);have H5:=Hd (H4.out.go hb);have U:=F5.out;refine op1 U ?_;intros;clear U hb;gi_wp2;refine Cl 169 (aae (i:=3) (F5.out.aQ 0 4) L5.out H5.out HY.u (IH.out _ (aR HY.u))) ?_;rintro e w6 ⟨rfl,hb⟩;have F6:=Hd (F5.out.go hb);have L6:=Hd (L5.out.go hb);have H6:=Hd (H5.out.go hb);have U:=F6.out;refine op1 U ?_;intros;clear U hb;gi_wp2;refine Cl 170 (abh (aaj _ _ _) (aaj _ _ _)) ?_;rintro e w7 ⟨rfl,ah⟩;gi_wp2;go_ret;exact⟨by rw[af,q.a,q.u];rfl,F6.out.bl.trans (ah.mono F6.out.bl.size)⟩
  have an:(j==0)=false:=by simpa using Q
  have ae:X=3:=by rw[HX.out];exact if_neg Q
  clear HX;gi_wp2;go_ret;exact⟨by rw[ae];rfl,F4.out.bl⟩
 clear r H;rw[not_or]at o s;rw[not_or,not_or]at t;have b2:(k==2)=false:=by simpa using o.1
 have b3:(k==3)=false:=by simpa using s.1
 have b4:(k==4)=false:=by simpa using s.2
 have b5:(k==5)=false:=by simpa using o.2
 have b6:(k==6)=false:=by simpa using t.1
 have b9:(k==9)=false:=by simpa using t.2.1
 have ak:(k==10)=false:=by simpa using t.2.2
 have b7:(k==7)=false:=by simpa using J
 have b8:(k==8)=false:=by simpa using K
 have al:(k==11)=false:=by simpa using N
 have I:X=0:=by rw[HX.out];simp[opW,o.1,o.2,s.1,s.2,t.1,t.2.1,t.2.2,J,K,N]
 clear HX o s t J K N hk;refine ent func168 rfl ntmps168 ?_;gi_wp2;go_ret;exact⟨by rw[I];rfl,F.out.bl⟩
theorem afa(hk:kd=2\/kd=3\/kd=4\/kd=5)(hx:∀y,y∈iZ x->WOk y)(hs:Sl aU w M A m c x.l):
 CB 119 #[.agg #[.int .i64 x.kind,.string x.name,.int .i64 x.n,.int .i64 x.d,.slice A m c],.agg #[.int .i64 kd,.int .i64 n]] (.int .i64 (aL kd n x)) w:=by
 refine wid ?_;have q:∀(fn:Fn) (first cap:Array Value) (w:World),(Instr.makeFunc fn first cap).run prog w=.ok (.func fn first cap) w:=fun _ _ _ _=>rfl;obtain⟨W1,h,F1⟩:=dR (((Fr.nil w).a w [.int .i64 x.kind,.string x.name,.int .i64 x.n,.int .i64 x.d,.slice A m c] 66).a (w+1) [.int .i64 kd,.int .i64 n] 168);obtain⟨g,o,f,j⟩:=fP (w:=W1) (F1.a W1 [.func (.func 168) #[] #[.pointer (some ⟨W1,0,none⟩),.pointer (some ⟨w+1,0,none⟩)]] 220);have F:=Hd j;have L:LkS g W1.heap.size (w.heap.size+1) kd n:=⟨j.aQ 2 0,j.aQ 1 0,j.aQ 1 1⟩;have t:=Hd (aen hk x hx ((hs.go F1.bl).go f) L);clear hs F1 j L f hk hx;have U:=F.out;refine op1 U ?_;intros;clear U;refine ent func119 rfl ntmps119 ?_;gi_wp2;refine Cl 168 t.out ?_;rintro e J ⟨rfl,p⟩;gi_wp2;go_ret;exact⟨rfl,F.out.bl.trans (p.mono F.out.bl.size)⟩
end
