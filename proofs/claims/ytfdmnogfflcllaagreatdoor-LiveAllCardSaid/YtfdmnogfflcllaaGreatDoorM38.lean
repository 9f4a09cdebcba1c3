/- Lemmas -/
import Derived.Test.YtfdmnogfflcllaaGreatDoorM32
set_option linter.all false
set_option maxRecDepth 100000
set_option maxHeartbeats 0
namespace Go.Proofs.YtfdmnogfflcllaaGreatDoor
open Go.Proofs.Tryz
variable {s:ByteArray}{m c a b:Int}{M:List Nat}{cs:List Value}
theorem abC(h:s.size<=32):s.size<=maxLen:=cF h pt
theorem ae7:(⟨#[]⟩:ByteArray).toList= []:=by rw[ByteArray.toList,ByteArray.toList.loop];rfl
theorem ae8{α:Type}{x a b:α}(h:x∈ [a,b]):x=a\/x=b:=by simpa using h
def exA:aU:=.mk 2 ⟨#[99]⟩ 0 0 []
def exS:aU:=.mk 8 ⟨#[]⟩ 2 1 [exA]
def exY:bT:=(⟨#[99]⟩,0,3,1,1,0,false)
def exX(p:Int)(f:Bool):aJ:=(⟨#[114]⟩,p,1,1,false,f,exS,⟨#[]⟩,-1)
def exR(p:Int)(f:Bool):aS:=⟨⟨#[97]⟩, [exY], [], [], [], [exX p f], [], [],0⟩
def exC(l:List Int):aL:=([l], [], [], [])
section
variable {p:Int}{f:Bool}
theorem ac7(h:p=1\/p=7):ZH (exR p f) where
 small:=by rcases h with rfl|rfl<;>cases f<;>decide+kernel
 parts y hy:=by rw[show y=exX p f from bz.1 hy];show nodes exS<=_;decide+kernel
 len:=by simp[exR]
 NT t ht:=by cases ht
 z1 x hx:=by rw[show x=exY from bz.1 hx];exact abC pt
 z2 x hx:=by cases hx
 z3 x hx:=by cases hx
 z4 x hx:=by rw[show x=exX p f from bz.1 hx];exact abC (show(1:Nat)<=32 by decide)
 a1:=by rcases h with rfl|rfl<;>cases f<;>decide+kernel
 a2:=by rcases h with rfl|rfl<;>cases f<;>decide+kernel
 a3:=by rcases h with rfl|rfl<;>cases f<;>decide+kernel
 a4:=by rcases h with rfl|rfl<;>cases f<;>decide+kernel
 o1:=by rcases h with rfl|rfl<;>cases f<;>decide+kernel
 o2:=by rcases h with rfl|rfl<;>cases f<;>decide+kernel
 o3:=by rcases h with rfl|rfl<;>cases f<;>decide+kernel
 o4:=by rcases h with rfl|rfl<;>cases f<;>decide+kernel
 name:=by rcases h with rfl|rfl<;>cases f<;>decide+kernel
 keys t ht:=by cases ht
 rounds y hy:=by rw[show y=exX p f from bz.1 hy];refine⟨?_,by rcases h with rfl|rfl<;>cases f<;>decide+kernel,by rfl,abC (show(0:Nat)<=32 by decide),.inl ⟨ae7,rfl⟩⟩;simp only[au,exX,exS,exA,Ut,XU,and_true];exact⟨abC pt,abC pt⟩
theorem afd:iZ exS= [exS,exA]:=by simp[exS,exA,iZ,Ah]
theorem aiB:∀y,y∈iZ exS->pX y:=by
 rw[afd];intro y g;rcases ae8 g with rfl|rfl;·exact⟨true,false,rfl,fun _=>ae7,fun _=>by decide,fun e=>by cases e⟩
 exact⟨false,true,rfl,(fun e=>by cases e),(fun e=>by cases e),fun _=>⟨rfl,fun _=>rfl⟩⟩
theorem ahi(h:p=1\/p=7):F15 (exR p f):=by
 rcases h with rfl|rfl<;>cases f
 all_goals
  refine{ c0:=by simp[exR],r0:=by simp[exR],aT:=fun c K=>?_,bonus:=fun c K=>(by cases K),malus:=fun c K=>(by cases K),prizes:=trivial,points:=trivial,best:=by decide,bp:=by decide,ties:=(fun t X=>by cases X),rounds:=fun x hx=>?_ };·rw[show c=exY from bz.1 K];refine⟨?_,?_,?_,?_,?_,?_,?_,?_,.inl rfl⟩<;>decide
  ·rw[bz.1 hx];refine⟨pt,pt,pt,fun c K=>?_,(fun e=>by cases e),fun _=>aiB⟩;rw[show c=exY from bz.1 K];decide
theorem aar(h:p=1\/p=7):Sound (exR p f):=by
 refine⟨ac7 h,ahi h,⟨fun _=>0,⟨show(0:Nat)<=5 by decide,(fun t X=>by cases X),(fun i t X=>by cases X),(fun i u=>by cases u),(fun i u=>by cases u)⟩⟩,fun i x hx=>?_⟩;obtain rfl:i=0:=by have:=(bu.1 hx).1;simp[exR]at this;exact this
 obtain rfl:exX p f=x:=fk hx;refine⟨fun y g e=>?_,fun h=>absurd h (show ¬(0:Int)<= -1 by decide)⟩;have g:y∈iZ exS:=g;rw[afd]at g;rcases ae8 g with rfl|rfl<;>exact absurd e pt
theorem ac8(h:p=1\/p=7){l:List Int}(hl:l.length<=20):yI (exR p f) (toC (exC l)) where
 fw:=⟨⟨⟨(ac7 h).parts,(ac7 h).len,(ac7 h).NT⟩,.inl (by show(0:Nat)<=5;decide),fun t ht=>by cases ht⟩,by show(1:Nat)<=12;decide⟩
 parts x hx:=by rw[show x=exX p f from bz.1 hx];show nodes exS<=_;decide+kernel
 lens:=by simp[toC,exC]
 mark m hm:=by rw[bz.1 hm];exact hl
 prev q hq:=by cases hq
end
theorem abk(h:m= -1\/m=0\/m=1\/m=2):f_ (exR 1 false) ((0:Nat):Int) (toC (exC [m])):=⟨aar (.inl rfl),0,exX 1 false,rfl,rfl,by rcases h with rfl|rfl|rfl|rfl<;>decide+kernel⟩
theorem aen:f_ (exR 7 false) ((0:Nat):Int) (toC (exC [-1,-1,-1,-1,-1,-1,-1])):=⟨aar (.inr rfl),0,exX 7 false,rfl,rfl,py⟩
theorem adx:vF (exR 1 false) ((0:Nat):Int) (toC (exC [4]))=170/\vF (exR 1 true) ((0:Nat):Int) (toC (exC [2]))=0:=by constructor<;>decide+kernel
theorem afU:aae (exR 7 false) (toC (exC [-1,-1,-1,-1,-1,-1,-1]))=16384:=py
theorem aco(h:m= -1\/m=0\/m=1\/m=2):aae (exR 1 false) (toC (exC [m]))<=5040:=by rcases h with rfl|rfl|rfl|rfl<;>decide+kernel
theorem aa3:abd 1 (aaJ 1 0 exS)=true:=py
theorem ahj(h:m=0\/m=1\/m=2\/m=3):qJ exY [m]=⟨m,1⟩:=by
 have d:rU exY [m]= [m]:=by simp[rU,gI,exY,kC]
 unfold qJ;rw[d];rcases h with rfl|rfl|rfl|rfl<;>exact rfl
theorem acp(h:m=0\/m=1\/m=2\/m=3){c:dS}:aao (exR 1 false) (exX 1 false) c [[m]]=⟨2*m,1⟩:=by
 have d:(kW (exR 1 false) (mkC c [[m]])).tot 0=⟨m,1⟩:=by rw[<-ahj h];rfl
 unfold aao;simp only[au,exX,exS,exA,rG,nH,Uf];simp;rw[d];rcases h with rfl|rfl|rfl|rfl<;>exact rfl
theorem ady(h:m=0\/m=1\/m=2):an (exR 1 false) (exX 1 false) (toC (exC [m]))= [⟨2*m,1⟩]:=by
 have K:av (exR 1 false) (toC (exC [m]))= [[[m]]]:=by rcases h with rfl|rfl|rfl<;>rfl
 unfold an;rw[K,eV,ia,acp pj];rfl
theorem agi:an (exR 1 false) (exX 1 false) (toC (exC [-1]))= [⟨0,1⟩,⟨2,1⟩,⟨4,1⟩,⟨6,1⟩]:=by
 have K:av (exR 1 false) (toC (exC [-1]))= [[[0]], [[1]], [[2]], [[3]]]:=by rfl
 unfold an;rw[K];simp only[eV,ia];rw[acp pj,acp pj,acp pj,acp pj];rfl
def exL:List aL:= [exC [1],exC [-1],exC [2],exC [0]]
theorem agj:exL.map (fun y=>an (exR 1 false) (exX 1 false) (toC y))= [[⟨2,1⟩], [⟨0,1⟩,⟨2,1⟩,⟨4,1⟩,⟨6,1⟩], [⟨4,1⟩], [⟨0,1⟩]]:=by simp only[exL,eV,ia];rw[ady pj,agi,ady pj,ady pj];rfl
theorem aiC: [exC [1]].map (fun y=>an (exR 1 false) (exX 1 false) (toC y))= [[⟨2,1⟩]]:=by simp only[eV,ia];rw[ady pj];rfl
theorem acr:(aaF [[⟨2,1⟩], [⟨0,1⟩,⟨2,1⟩,⟨4,1⟩,⟨6,1⟩], [⟨4,1⟩], [⟨0,1⟩]] 0).map Int.ofNat= [2,3]/\(aaF [[⟨2,1⟩], [⟨0,1⟩,⟨2,1⟩,⟨4,1⟩,⟨6,1⟩], [⟨4,1⟩], [⟨0,1⟩]] 1).map Int.ofNat= [1,2,3]/\(aaF [[⟨2,1⟩]] 0).map Int.ofNat= [1]:=by refine⟨?_,?_,?_⟩<;>decide+kernel
theorem aaz{y:aL}(h:y∈exL):f_ (exR 1 false) ((0:Nat):Int) (toC y)/\yI (exR 1 false) (toC y)/\vF (exR 1 false) ((0:Nat):Int) (toC y)=0/\aae (exR 1 false) (toC y)<=5040:=by simp only[exL,cD,eo,iB]at h;rcases h with rfl|rfl|rfl|rfl<;>exact⟨abk pj,ac8 (.inl rfl) pt,Pv (abk pj),aco pj⟩
section
open Go.RowKit Go.Shelf
attribute [local go_sem] cX
theorem lN{α:Type} [Rep α] {w:World}(hM:b_ M w)(e:TypeId)(xs:List α)(hn:xs.length<=1000)(h:∀k x,xs[k]?=some x->∃es,Rep.rd w M x es/\∀j u,es[j]?=some u->cs[k*Rep.sz α+j]?=some u):
 Sl α (w.alloc (.cells cs.toArray e)) M (some ⟨w,0,none⟩) xs.length xs.length xs:=by
 have hb:Below w w (w.alloc (.cells cs.toArray e)):=by exact bel
 refine⟨rfl,bj _,by unfold jG;omega,pj,.inr ⟨w,0,rfl,fun k x l=>?_⟩⟩;obtain⟨es,d,g⟩:=h k x l;refine⟨es,jf d (bq hb M),fun n=>by have:=hM _ n;omega,fun j u o=>?_⟩;have i:=g j u o;have hn:=gH w (.cells cs.toArray e);generalize w.alloc (.cells cs.toArray e)=W2 at hn |-;generalize w.heap.size=q at hn |-;simp[World.cell?,hn,i]
theorem Sl.Es{α:Type} [kE α] (w:World)(M:List Nat):Sl α w M none 0 0 []:=⟨rfl,bj _,by unfold jG;omega,pj,.inl rfl⟩
theorem wH{α:Type} [Rep α] {w:World}{x:α}(h:Rep.rd w M x cs):∀k y, [x][k]?=some y->∃es,Rep.rd w M y es/\∀j u,es[j]?=some u->cs[k*Rep.sz α+j]?=some u:=fun k y hk=>by
 match k,hk with
 |0,hk=>cases hk;exact⟨cs,h,fun j u hu=>by rwa [fX,dC]⟩
abbrev dH:dK:=⟨none,0,0⟩
theorem j3(h:(-9223372036854775808<=a/\a<=9223372036854775807)/\(-9223372036854775808<=b/\b<=9223372036854775807)/\(-9223372036854775808<=c/\c<=9223372036854775807):=by decide):i64 a/\i64 b/\i64 c:=h
theorem j1(h: -9223372036854775808<=a/\a<=9223372036854775807:=by decide):i64 a:=h
theorem afV{w:World}{d e:Int}{q:Bool}(ha:i64 a)(hb:i64 b)(hc:i64 c)(hd:i64 d)(he:i64 e):Rep.rd w M ((s,a,b,c,d,e,q):bT) [s,a,b,c,d,e,q]:=⟨[_],_,rfl,rfl, [_],_,rfl,⟨rfl,ha⟩, [_],_,rfl,⟨rfl,hb⟩, [_],_,rfl,⟨rfl,hc⟩, [_],_,rfl,⟨rfl,hd⟩, [_],_,rfl,⟨rfl,he⟩,rfl⟩
end
section
open Go.RowKit
def St(W:World)(P:World->Prop):Prop:=∀V,Below W W V->P V
section
variable {W V:World}{P Q:World→Prop}
theorem St.go(h:St W P)(hb:Below W W V):St V P:=fun U hU=>h U (hb.trans (hU.mono hb.size))
theorem St.add(h:St W P)(q:∀V,Below W W V->Q V):St W (fun V=>Q V/\P V):=fun V hV=>⟨q V hV,h V hV⟩
theorem St.at_(h:St W P):P W:=h W pE
theorem St.map(h:St W P)(q:∀V,P V->Q V):St W Q:=fun V hV=>q V (h V hV)
end
attribute [irreducible] St
def Rds{α:Type} [Rep α] (w:World)(M:List Nat):List α->List (List Value)->Prop
 | [], []=>True
 |x::xs,c::cs=>Rep.rd w M x c/\Rds w M xs cs
 |_,_=>False
theorem Rds.at_{α:Type} [Rep α] {w:World}{M:List Nat}:∀{xs:List α}{cs:List (List Value)}{k:Nat}{x:α},Rds w M xs cs->xs[k]?=some x->∃es,Rep.rd w M x es/\∀(j:Nat) (u:Value),es[j]?=some u->cs.flatten[k*Rep.sz α+j]?=some u
 |y::xs,c::cs,0,x,h,hk=>by cases hk;exact⟨c,h.1,fun j u hu=>by rw[fX,dC,List.flatten_cons,dk (bu.1 hu).1];exact hu⟩
 |y::xs,c::cs,k+1,x,h,hk=>by obtain⟨es,h1,h2⟩:=Rds.at_ (k:=k) h.2 (by simpa using hk);refine⟨es,h1,fun j u hu=>?_⟩;have hl:=oO h.1;rw[List.flatten_cons,cQ (by rw[hl,fY];omega),hl,show(k+1)*Rep.sz α+j-Rep.sz α=k*Rep.sz α+j by rw[fY];omega];exact h2 j u hu
theorem aa4{α:Type} [Rep α] {w:World}(hM:b_ M w)(e:TypeId){cs:List (List Value)}(xs:List α)(h:Rds w M xs cs)(hn:xs.length<=1000):Sl α (w.alloc (.cells cs.flatten.toArray e)) M (some ⟨w,0,none⟩) xs.length xs.length xs:=lN hM e xs hn fun k x hk=>h.at_ hk
open Go.Shelf
attribute [local go_sem] cX
theorem afW{α:Type} [Rep α] {W:World}{b:Nat}{x:α}(hx:Rep.rd W M x cs)(hm:b∉M)(hc:∀j u,cs[j]?=some u->W.cell? ⟨b,j,none⟩=some u):Sl α W M (some ⟨b,0,none⟩) 1 1 [x]:=by
 refine⟨rfl,bj _,by unfold jG;omega,pj,.inr ⟨b,0,rfl,fun k y e=>?_⟩⟩
 match k,e with
 |0,e=>cases e;exact⟨cs,hx,hm,fun j u d=>by simpa using hc j u d⟩
abbrev abI(p:Int)(f:Bool)(be:Nat):List Value:= [.string ⟨#[114]⟩,p,.int .i64 1,.int .i64 1,false,f,.int .i64 8,.string ⟨#[]⟩,.int .i64 2,.int .i64 1,.slice (some ⟨be,0,none⟩) 1 1,.string ⟨#[]⟩,.int .i64 (-1)]
structure OnS(w W:World)(p:Int)(f:Bool)(bc be b5:Nat):Prop where
 cr:Sl bT W [b5] (some ⟨bc,0,none⟩) 1 1 [exY]
 ex:Sl aU W [b5] (some ⟨be,0,none⟩) 1 1 [exA]
 fr:Fr w W [(b5,abI p f be)]
abbrev onC(bc b5:Nat):List Value:=aV (exR 1 false) ⟨some ⟨bc,0,none⟩,1,1⟩ dH dH dH ⟨some ⟨b5,0,none⟩,1,1⟩ dH dH
section
variable {w W W':World}{p:Int}{f:Bool}{bc be b5:Nat}
theorem OnS.go(h:OnS w W p f bc be b5)(hb:Below W W W'):OnS w W' p f bc be b5:=⟨h.cr.go hb,h.ex.go hb,h.fr.go hb⟩
theorem OnS.rul(h:OnS w W p f bc be b5)(hp:i64 p):dG W [] (exR p f) ⟨some ⟨bc,0,none⟩,1,1⟩ dH dH dH ⟨some ⟨b5,0,none⟩,1,1⟩ dH dH:=by have d:∀k:Int,(-9223372036854775808<=k/\k<=9223372036854775807)->i64 k:=fun k h=>h;have A:=afW (α:=aJ) (W:=W) (M:= []) (b:=b5) (x:=exX p f) (cs:=abI p f be) (sS (x:=exX p f) ⟨hp,d 1 pt,d 1 pt,d (-1) pt⟩ ⟨d 8 pt,d 2 pt,d 1 pt⟩ (h.ex.less (fun q h=>by cases h))) po (fun j u e=>(h.fr.at_ b5 _ po j u e).1);exact⟨h.cr.less (fun q h=>by cases h),Sl.Es _ _,Sl.Es _ _,Sl.Es _ _,A,Sl.Es _ _,Sl.Es _ _,d 0 pt⟩
theorem OnS.put{j:Nat}{u0 u:Value}{p':Int}{f':Bool}(h:OnS w W p f bc be b5)(hj:(abI p f be)[j]?=some u0)(hs:(abI p f be).set j u=abI p' f' be):OnS w (W.setCell ⟨b5,j,none⟩ u) p' f' bc be b5/\Keeps [b5] W (W.setCell ⟨b5,j,none⟩ u):=by have k:Keeps [b5] W (W.setCell ⟨b5,j,none⟩ u):=(cG _ _).setCell (p:=⟨b5,j,none⟩) (.inl po) _;have f2:=Fr.qY (L:= []) (b:=b5) (C:=abI p f be) h.fr (fun c vs d=>by cases d) hj u;rw[hs]at f2;exact⟨⟨h.cr.keep k,h.ex.keep k,f2⟩,k⟩
end
def OnP(w:World)(e:Ending)(w':World):Prop:=∃bc be b5:Nat,e=.returned (.agg (onC bc b5).toArray)/\OnS w w' 1 false bc be b5
attribute [irreducible] OnP
theorem abX(w:World):Calls prog 19 #[] w (OnP w):=by
 refine wid ?_;obtain⟨l,H⟩:=aC (w.alloc (.cells nR.toArray 28));have F:Fr w l ([]++ [(w.heap.size,nR)]):=by rw[<-H];exact(Fr.nil w).a w nR 28
 have J:l.heap.size=w.heap.size+1:=by rw[<-H];simp
 have hM:b_ [w.heap.size] l:=fun q d=>by rw[bz]at d;omega
 obtain⟨e,v⟩:=aC (l.alloc (.cells #[.int .i64 2,.string ⟨#[99]⟩,.int .i64 0,.int .i64 0,.slice none 0 0] 66));have I:e.heap.size=w.heap.size+1+1:=by rw[<-v];simp[J]
 have B:Below l l e:=by rw[<-v];exact bel
 have F1:Fr w e ([]++ [(w.heap.size,nR)]++ [(w.heap.size+1, [.int .i64 2,.string ⟨#[99]⟩,.int .i64 0,.int .i64 0,.slice none 0 0])]):=by rw[<-v];exact F.a (w+1) _ 66 J.symm
 have o1:=aW F1;have q2:=aN (F1.aQ 1 2);have q3:=aN (F1.aQ 1 3);have q4:=aN (F1.aQ 1 4);obtain⟨g,y⟩:=aC (e.alloc (.cells #[.string ⟨#[99]⟩,.int .i64 0,.int .i64 3,.int .i64 1,.int .i64 1,.int .i64 0,false] 59));have o:Sl bT g [w.heap.size] (some ⟨e,0,none⟩) 1 1 [exY]:=by rw[<-y];exact lN (hM.le B.size) 59 [exY] po (wH (α:=bT) (x:=exY) (afV j1 j1 j1 j1 j1))
 rw[I]at o;have Z:g.heap.size=w.heap.size+1+1+1:=by rw[<-y];simp[I]
 have t:Below e e g:=by rw[<-y];exact bel
 have o2:=aW (F1.go t);obtain⟨j,z⟩:=aC (g.alloc (.cells #[.int .i64 2,.string ⟨#[99]⟩,.int .i64 0,.int .i64 0,.slice none 0 0] 66));have r:Sl aU j [w.heap.size] (some ⟨g,0,none⟩) 1 1 [exA]:=by rw[<-z];exact lN ((hM.le B.size).le t.size) 66 [exA] po (wH (kH.of j3 (Sl.Es _ _)))
 rw[Z]at r;have y3:j.heap.size=w.heap.size+1+1+1+1:=by rw[<-z];simp[Z]
 have C:Below g g j:=by rw[<-z];exact bel
 obtain⟨n,G⟩:=aC (j.alloc (.cells (abI 1 false (w.heap.size+1+1+1)).toArray 68));have hb4:Below j j n:=by rw[<-G];exact bel
 have F4:Fr w n ([]++ [(w.heap.size,nR)]++ [(w.heap.size+1, [.int .i64 2,.string ⟨#[99]⟩,.int .i64 0,.int .i64 0,.slice none 0 0])]++ [(w.heap.size+1+1+1+1,abI 1 false (w.heap.size+1+1+1))]):=by rw[<-G];exact((F1.go t).go C).a (w+1+1+1+1) _ 68 y3.symm
 have o3:=aW F4;replace o:=((o.more (b:=w+1+1+1+1) pj).go C).go hb4;replace r:=(r.more (b:=w+1+1+1+1) pj).go hb4;obtain⟨U,A⟩:=aC (fM n w.heap.size 0 (onC (w.heap.size+1+1) (w.heap.size+1+1+1+1)));obtain⟨a1,E⟩:=iO (w:=n) (b:=w) (vs:=nR) (us:=onC (w.heap.size+1+1) (w.heap.size+1+1+1+1)) (fun i u O=>F4.at_ w.heap.size nR po i u O) rfl A;have L:=A;simp only[fM,dC,Nat.reduceAdd,exR]at L;have D:Keeps [w.heap.size+1+1+1+1,w.heap.size] n U:=E.k.mono fun q d=>by simp at d |-;exact .inr d
 have K:=Hd (show OnS w U 1 false (w.heap.size+1+1) (w.heap.size+1+1+1) (w.heap.size+1+1+1+1)from⟨(o.keep D).less (fun q d=>by simp at d |-;exact .inl d),(r.keep D).less (fun q d=>by simp at d |-;exact .inl d),(F4.only (L':= [(w.heap.size+1+1+1+1,abI 1 false (w.heap.size+1+1+1))]) (fun x hx=>by simp at hx |-;exact .inr (.inr hx))).kb E pD (fun c vs N=>by simp at N;omega)⟩);have R:=(a1 0 _ rfl).1;have S:=(a1 1 _ rfl).1;have T:=(a1 2 _ rfl).1;have X:=(a1 3 _ rfl).1;have Y:=(a1 4 _ rfl).1;have u5:=(a1 5 _ rfl).1;have u6:=(a1 6 _ rfl).1;have u7:=(a1 7 _ rfl).1;have u8:=(a1 8 _ rfl).1;clear o r D B t C hb4 hM F F1 F4 a1 E A;refine ent func19 ntmps19 ?_;gi_wp2;refine⟨rfl,.agg (onC (w.heap.size+1+1) (w.heap.size+1+1+1+1)).toArray,by simp[results,go_sem,exR,R,S,T,X,Y,u5,u6,u7,u8],?_⟩;unfold OnP;exact⟨_,_,_,rfl,K.out⟩
theorem aw(w:World)(hm:i64 m):Calls prog 20 #[m] w fun e w'=>∃s:dK,e=.returned (.agg (dI s dH dH dH).toArray)/\Sl (List Int) w' [] s.A s.n s.c [[m]]/\Below w w w':=by
 refine wid ?_;obtain⟨g,E⟩:=aC (w.alloc (.cells #[.slice none 0 0,.slice none 0 0,.slice none 0 0,.slice none 0 0] 42));have B:Fr w g ([]++ [(w.heap.size,dI dH dH dH dH)]):=by rw[<-E];exact(Fr.nil w).a w (dI dH dH dH dH) 42
 have G:g.heap.size=w.heap.size+1:=by rw[<-E];simp
 have hM:b_ [w.heap.size] g:=fun q I=>by rw[bz]at I;omega
 obtain⟨d,o⟩:=aC (g.alloc (.cells #[m] 3));have v:Sl Int d [w.heap.size] (some ⟨g,0,none⟩) 1 1 [m]:=by rw[<-o];exact lN hM 3 [m] po (wH (α:=Int) (x:=m) ⟨rfl,hm⟩)
 rw[G]at v;have R:d.heap.size=w.heap.size+1+1:=by rw[<-o];simp[G]
 have t:Below g g d:=by rw[<-o];exact bel
 obtain⟨j,D⟩:=aC (d.alloc (.cells #[.slice (some ⟨w+1,0,none⟩) 1 1] 26));have y:Sl (List Int) j [w.heap.size] (some ⟨d,0,none⟩) 1 1 [[m]]:=by rw[<-D];exact lN (hM.le t.size) 26 [[m]] po (wH (α:=List Int) (x:= [m]) ⟨_,_,_,rfl,v⟩)
 rw[R]at y;have F:Below d d j:=by rw[<-D];exact bel
 have l:=(B.go t).go F;have S:=aW l;have T:=aN (l.aQ 0 1);have X:=aN (l.aQ 0 2);have Y:=aN (l.aQ 0 3);obtain⟨U,r⟩:=aC (fM j w.heap.size 0 (dI ⟨some ⟨w+1+1,0,none⟩,1,1⟩ dH dH dH));obtain⟨a1,z⟩:=iO (w:=j) (b:=w) (vs:=dI dH dH dH dH) (us:=dI ⟨some ⟨w+1+1,0,none⟩,1,1⟩ dH dH dH) (fun i u J=>l.at_ w.heap.size (dI dH dH dH dH) po i u J) rfl r;have H:=r;simp only[fM,dC,Nat.reduceAdd]at H;have C:=Hd2 ((y.keep z.k).less (M':= []) pH) (l.bl.trans (z.bl.mono pD));have K:=(a1 0 _ rfl).1;have L:=(a1 1 _ rfl).1;have N:=(a1 2 _ rfl).1;have O:=(a1 3 _ rfl).1;clear v y t F hM B l a1 z r;refine ent func20 ntmps20 ?_;gi_wp2;refine⟨rfl,.agg (dI ⟨some ⟨w+1+1,0,none⟩,1,1⟩ dH dH dH).toArray,by simp[results,go_sem,K,L,N,O],⟨some ⟨w+1+1,0,none⟩,1,1⟩,rfl,C.a,C.u⟩
end
