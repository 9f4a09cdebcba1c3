/- Lemmas. -/
import Derived.Test.YtfdmnogfflcllaaGreatDoorM42
import Derived.Test.YtfdmnogfflcllaaGreatDoorM41
set_option linter.unusedVariables false
set_option linter.unusedSimpArgs false
set_option maxRecDepth 100000
set_option maxHeartbeats 20000000
namespace Go.Proofs.YtfdmnogfflcllaaGreatDoor
open Go.Proofs.Tryz
variable {s:ByteArray}{m c a b:Int}{M:List Nat}{cs:List Value}
theorem abr(h:s.size<=32):s.size<=maxLen:=cD h oR
theorem aeO:(⟨#[]⟩:ByteArray).toList= []:=by rw[ByteArray.toList,ByteArray.toList.loop];rfl
theorem aeP{α:Type}{x a b:α}(h:x∈ [a,b]):x=a\/x=b:=by simpa using h
def exA:aU:=.mk 2 ⟨#[99]⟩ 0 0 []
def exS:aU:=.mk 8 ⟨#[]⟩ 2 1 [exA]
def exY:bT:=(⟨#[99]⟩,0,3,1,1,0,false)
def exX(p:Int)(f:Bool):aJ:=(⟨#[114]⟩,p,1,1,false,f,exS,⟨#[]⟩,-1)
def exR(p:Int)(f:Bool):aS:=⟨⟨#[97]⟩, [exY], [], [], [], [exX p f], [], [],0⟩
def exC(l:List Int):aM:=([l], [], [], [])
section
variable {p:Int}{f:Bool}
theorem acY(h:p=1\/p=7):ZH (exR p f) where
 small:=by rcases h with rfl|rfl<;>cases f<;>decide+kernel
 parts y hy:=by rw[show y=exX p f from bE.1 hy];show nodes exS<=_;decide+kernel
 len:=by simp[exR]
 NT t ht:=by cases ht
 z1 x hx:=by rw[show x=exY from bE.1 hx];exact abr oR
 z2 x hx:=by cases hx
 z3 x hx:=by cases hx
 z4 x hx:=by rw[show x=exX p f from bE.1 hx];exact abr (show(1:Nat)<=32 by decide)
 a1:=by rcases h with rfl|rfl<;>cases f<;>decide+kernel
 a2:=by rcases h with rfl|rfl<;>cases f<;>decide+kernel
 a3:=by rcases h with rfl|rfl<;>cases f<;>decide+kernel
 a4:=by rcases h with rfl|rfl<;>cases f<;>decide+kernel
 o1:=by rcases h with rfl|rfl<;>cases f<;>decide+kernel
 o2:=by rcases h with rfl|rfl<;>cases f<;>decide+kernel
 o3:=by rcases h with rfl|rfl<;>cases f<;>decide+kernel
 o4:=by rcases h with rfl|rfl<;>cases f<;>decide+kernel
 name:=by rcases h with rfl|rfl<;>cases f<;>decide+kernel
 keys t ht:=by cases ht
 rounds y hy:=by rw[show y=exX p f from bE.1 hy];refine⟨?_,by rcases h with rfl|rfl<;>cases f<;>decide+kernel,by rfl,abr (show(0:Nat)<=32 by decide),.inl ⟨aeO,rfl⟩⟩;simp only[au,exX,exS,exA,Ut,XU,and_true];exact⟨abr oR,abr oR⟩
theorem aeX:iZ exS= [exS,exA]:=by simp[exS,exA,iZ,Ah]
theorem aic:∀y,y∈iZ exS->pX y:=by
 rw[aeX];intro y g;rcases aeP g with rfl|rfl;·exact⟨true,false,rfl,fun _=>aeO,fun _=>by decide,fun e=>by cases e⟩
 exact⟨false,true,rfl,(fun e=>by cases e),(fun e=>by cases e),fun _=>⟨rfl,fun _=>rfl⟩⟩
theorem agW(h:p=1\/p=7):F15 (exR p f):=by
 rcases h with rfl|rfl<;>cases f
 all_goals
  refine{ c0:=by simp[exR],r0:=by simp[exR],aT:=fun c I=>?_,bonus:=fun c I=>(by cases I),malus:=fun c I=>(by cases I),prizes:=trivial,points:=trivial,best:=by decide,bp:=by decide,ties:=(fun t S=>by cases S),rounds:=fun x hx=>?_ };·rw[show c=exY from bE.1 I];refine⟨?_,?_,?_,?_,?_,?_,?_,?_,.inl rfl⟩<;>decide
  ·rw[bE.1 hx];refine⟨oR,oR,oR,fun c I=>?_,(fun e=>by cases e),fun _=>aic⟩;rw[show c=exY from bE.1 I];decide
theorem aap(h:p=1\/p=7):Sound (exR p f):=by
 refine⟨acY h,agW h,⟨fun _=>0,⟨show(0:Nat)<=5 by decide,(fun t S=>by cases S),(fun i t S=>by cases S),(fun i d=>by cases d),(fun i d=>by cases d)⟩⟩,fun i x hx=>?_⟩;obtain rfl:i=0:=by have:=(bj.1 hx).1;simp[exR]at this;exact this
 obtain rfl:exX p f=x:=eW hx;refine⟨fun y g e=>?_,fun h=>absurd h (show ¬(0:Int)<= -1 by decide)⟩;have g:y∈iZ exS:=g;rw[aeX]at g;rcases aeP g with rfl|rfl<;>exact absurd e oR
theorem acZ(h:p=1\/p=7){l:List Int}(hl:l.length<=20):yI (exR p f) (toC (exC l)) where
 fw:=⟨⟨⟨(acY h).parts,(acY h).len,(acY h).NT⟩,.inl (by show(0:Nat)<=5;decide),fun t ht=>by cases ht⟩,by show(1:Nat)<=12;decide⟩
 parts x hx:=by rw[show x=exX p f from bE.1 hx];show nodes exS<=_;decide+kernel
 lens:=by simp[toC,exC]
 mark m hm:=by rw[bE.1 hm];exact hl
 prev q hq:=by cases hq
end
theorem abd(h:m= -1\/m=0\/m=1\/m=2):f_ (exR 1 false) ((0:Nat):Int) (toC (exC [m])):=⟨aap (.inl rfl),0,exX 1 false,rfl,rfl,by rcases h with rfl|rfl|rfl|rfl<;>decide+kernel⟩
theorem ad2:f_ (exR 7 false) ((0:Nat):Int) (toC (exC [-1,-1,-1,-1,-1,-1,-1])):=⟨aap (.inr rfl),0,exX 7 false,rfl,rfl,oT⟩
theorem adi:vF (exR 1 false) ((0:Nat):Int) (toC (exC [4]))=170/\vF (exR 1 true) ((0:Nat):Int) (toC (exC [2]))=0:=by constructor<;>decide+kernel
theorem afB:aah (exR 7 false) (toC (exC [-1,-1,-1,-1,-1,-1,-1]))=16384:=oT
theorem ab7(h:m= -1\/m=0\/m=1\/m=2):aah (exR 1 false) (toC (exC [m]))<=5040:=by rcases h with rfl|rfl|rfl|rfl<;>decide+kernel
theorem aaX:aa6 1 (aaL 1 0 exS)=true:=oT
theorem agX(h:m=0\/m=1\/m=2\/m=3):qJ exY [m]=⟨m,1⟩:=by
 have d:rU exY [m]= [m]:=by simp[rU,gI,exY,kC]
 unfold qJ;rw[d];rcases h with rfl|rfl|rfl|rfl<;>exact rfl
theorem ab8(h:m=0\/m=1\/m=2\/m=3){c:dS}:aaG (exR 1 false) (exX 1 false) c [[m]]=⟨2*m,1⟩:=by
 have d:(kW (exR 1 false) (mkC c [[m]])).tot 0=⟨m,1⟩:=by rw[<-agX h];rfl
 unfold aaG;simp only[au,exX,exS,exA,rG,nH,Uf];simp;rw[d];rcases h with rfl|rfl|rfl|rfl<;>exact rfl
theorem adk(h:m=0\/m=1\/m=2):af (exR 1 false) (exX 1 false) (toC (exC [m]))= [⟨2*m,1⟩]:=by
 have I:aal (exR 1 false) (toC (exC [m]))= [[[m]]]:=by rcases h with rfl|rfl|rfl<;>rfl
 unfold af;rw[I,fg,ix,ab8 oE];rfl
theorem afT:af (exR 1 false) (exX 1 false) (toC (exC [-1]))= [⟨0,1⟩,⟨2,1⟩,⟨4,1⟩,⟨6,1⟩]:=by
 have I:aal (exR 1 false) (toC (exC [-1]))= [[[0]], [[1]], [[2]], [[3]]]:=by rfl
 unfold af;rw[I];simp only[fg,ix];rw[ab8 oE,ab8 oE,ab8 oE,ab8 oE];rfl
def exL:List aM:= [exC [1],exC [-1],exC [2],exC [0]]
theorem afU:exL.map (fun y=>af (exR 1 false) (exX 1 false) (toC y))= [[⟨2,1⟩], [⟨0,1⟩,⟨2,1⟩,⟨4,1⟩,⟨6,1⟩], [⟨4,1⟩], [⟨0,1⟩]]:=by simp only[exL,fg,ix];rw[adk oE,afT,adk oE,adk oE];rfl
theorem aie: [exC [1]].map (fun y=>af (exR 1 false) (exX 1 false) (toC y))= [[⟨2,1⟩]]:=by simp only[fg,ix];rw[adk oE];rfl
theorem ab9:(aay [[⟨2,1⟩], [⟨0,1⟩,⟨2,1⟩,⟨4,1⟩,⟨6,1⟩], [⟨4,1⟩], [⟨0,1⟩]] 0).map Int.ofNat= [2,3]/\(aay [[⟨2,1⟩], [⟨0,1⟩,⟨2,1⟩,⟨4,1⟩,⟨6,1⟩], [⟨4,1⟩], [⟨0,1⟩]] 1).map Int.ofNat= [1,2,3]/\(aay [[⟨2,1⟩]] 0).map Int.ofNat= [1]:=by refine⟨?_,?_,?_⟩<;>decide+kernel
theorem aaz{y:aM}(h:y∈exL):f_ (exR 1 false) ((0:Nat):Int) (toC y)/\yI (exR 1 false) (toC y)/\vF (exR 1 false) ((0:Nat):Int) (toC y)=0/\aah (exR 1 false) (toC y)<=5040:=by simp only[exL,cB,dz,il]at h;rcases h with rfl|rfl|rfl|rfl<;>exact⟨abd oE,acZ (.inl rfl) oR,Pv (abd oE),ab7 oE⟩
section
open Go.RowKit Go.Shelf
attribute [local go_sem] cK
theorem lN{α:Type} [Rep α] {w:World}(hM:b_ M w)(e:TypeId)(xs:List α)(hn:xs.length<=1000)(h:∀k x,xs[k]?=some x->∃es,Rep.rd w M x es/\∀j u,es[j]?=some u->cs[k*Rep.sz α+j]?=some u):
 Sl α (w.alloc (.cells cs.toArray e)) M (some ⟨w,0,none⟩) xs.length xs.length xs:=by
 have hb:Below w w (w.alloc (.cells cs.toArray e)):=by exact bel
 refine⟨rfl,bh _,by unfold jG;omega,oE,.inr ⟨w,0,rfl,fun k x i=>?_⟩⟩;obtain⟨es,d,g⟩:=h k x i;refine⟨es,iN d (a_ hb M),fun l=>by have:=hM _ l;omega,fun j u n=>?_⟩;have r:=g j u n;have hn:=gl w (.cells cs.toArray e);generalize w.alloc (.cells cs.toArray e)=W2 at hn |-;generalize w.heap.size=q at hn |-;simp[World.cell?,hn,r]
theorem Sl.Es{α:Type} [kE α] (w:World)(M:List Nat):Sl α w M none 0 0 []:=⟨rfl,bh _,by unfold jG;omega,oE,.inl rfl⟩
theorem wH{α:Type} [Rep α] {w:World}{x:α}(h:Rep.rd w M x cs):∀k y, [x][k]?=some y->∃es,Rep.rd w M y es/\∀j u,es[j]?=some u->cs[k*Rep.sz α+j]?=some u:=fun k y hk=>by
 match k,hk with
 |0,hk=>cases hk;exact⟨cs,h,fun j u hu=>by rwa [fN,dm]⟩
abbrev dH:dK:=⟨none,0,0⟩
theorem j3(h:(-9223372036854775808<=a/\a<=9223372036854775807)/\(-9223372036854775808<=b/\b<=9223372036854775807)/\(-9223372036854775808<=c/\c<=9223372036854775807):=by decide):i64 a/\i64 b/\i64 c:=h
theorem j1(h: -9223372036854775808<=a/\a<=9223372036854775807:=by decide):i64 a:=h
theorem afC{w:World}{d e:Int}{q:Bool}(ha:i64 a)(hb:i64 b)(hc:i64 c)(hd:i64 d)(he:i64 e):Rep.rd w M ((s,a,b,c,d,e,q):bT) [.string s,.int .i64 a,.int .i64 b,.int .i64 c,.int .i64 d,.int .i64 e,.bool q]:=⟨[_],_,rfl,rfl, [_],_,rfl,⟨rfl,ha⟩, [_],_,rfl,⟨rfl,hb⟩, [_],_,rfl,⟨rfl,hc⟩, [_],_,rfl,⟨rfl,hd⟩, [_],_,rfl,⟨rfl,he⟩,rfl⟩
end
section
open Go.RowKit
def St(W:World)(P:World->Prop):Prop:=∀V,Below W W V->P V
section
variable {W V:World}{P Q:World→Prop}
theorem St.go(h:St W P)(hb:Below W W V):St V P:=fun U hU=>h U (hb.trans (hU.mono hb.size))
theorem St.add(h:St W P)(q:∀V,Below W W V->Q V):St W (fun V=>Q V/\P V):=fun V hV=>⟨q V hV,h V hV⟩
theorem St.at_(h:St W P):P W:=h W pd
theorem St.map(h:St W P)(q:∀V,P V->Q V):St W Q:=fun V hV=>q V (h V hV)
end
attribute [irreducible] St
def Rds{α:Type} [Rep α] (w:World)(M:List Nat):List α->List (List Value)->Prop
 | [], []=>True
 |x::xs,c::cs=>Rep.rd w M x c/\Rds w M xs cs
 |_,_=>False
theorem Rds.at_{α:Type} [Rep α] {w:World}{M:List Nat}:∀{xs:List α}{cs:List (List Value)}{k:Nat}{x:α},Rds w M xs cs->xs[k]?=some x->∃es,Rep.rd w M x es/\∀(j:Nat) (u:Value),es[j]?=some u->cs.flatten[k*Rep.sz α+j]?=some u
 |y::xs,c::cs,0,x,h,hk=>by cases hk;exact⟨c,h.1,fun j u hu=>by rw[fN,dm,List.flatten_cons,di (bj.1 hu).1];exact hu⟩
 |y::xs,c::cs,k+1,x,h,hk=>by obtain⟨es,h1,h2⟩:=Rds.at_ (k:=k) h.2 (by simpa using hk);refine⟨es,h1,fun j u hu=>?_⟩;have hl:=nE h.1;rw[List.flatten_cons,cM (by rw[hl,fX];omega),hl,show(k+1)*Rep.sz α+j-Rep.sz α=k*Rep.sz α+j by rw[fX];omega];exact h2 j u hu
theorem aaY{α:Type} [Rep α] {w:World}(hM:b_ M w)(e:TypeId){cs:List (List Value)}(xs:List α)(h:Rds w M xs cs)(hn:xs.length<=1000):Sl α (w.alloc (.cells cs.flatten.toArray e)) M (some ⟨w,0,none⟩) xs.length xs.length xs:=lN hM e xs hn fun k x hk=>h.at_ hk
open Go.Shelf
attribute [local go_sem] cK
theorem afD{α:Type} [Rep α] {W:World}{b:Nat}{x:α}(hx:Rep.rd W M x cs)(hm:b∉M)(hc:∀j u,cs[j]?=some u->W.cell? ⟨b,j,none⟩=some u):Sl α W M (some ⟨b,0,none⟩) 1 1 [x]:=by
 refine⟨rfl,bh _,by unfold jG;omega,oE,.inr ⟨b,0,rfl,fun k y e=>?_⟩⟩
 match k,e with
 |0,e=>cases e;exact⟨cs,hx,hm,fun j u n=>by simpa using hc j u n⟩
abbrev abw(p:Int)(f:Bool)(be:Nat):List Value:= [.string ⟨#[114]⟩,.int .i64 p,.int .i64 1,.int .i64 1,.bool false,.bool f,.int .i64 8,.string ⟨#[]⟩,.int .i64 2,.int .i64 1,.slice (some ⟨be,0,none⟩) 1 1,.string ⟨#[]⟩,.int .i64 (-1)]
structure OnS(w W:World)(p:Int)(f:Bool)(bc be b5:Nat):Prop where
 cr:Sl bT W [b5] (some ⟨bc,0,none⟩) 1 1 [exY]
 ex:Sl aU W [b5] (some ⟨be,0,none⟩) 1 1 [exA]
 fr:Fr w W [(b5,abw p f be)]
abbrev onC(bc b5:Nat):List Value:=aV (exR 1 false) ⟨some ⟨bc,0,none⟩,1,1⟩ dH dH dH ⟨some ⟨b5,0,none⟩,1,1⟩ dH dH
section
variable {w W W':World}{p:Int}{f:Bool}{bc be b5:Nat}
theorem OnS.go(h:OnS w W p f bc be b5)(hb:Below W W W'):OnS w W' p f bc be b5:=⟨h.cr.go hb,h.ex.go hb,h.fr.go hb⟩
theorem OnS.rul(h:OnS w W p f bc be b5)(hp:i64 p):dG W [] (exR p f) ⟨some ⟨bc,0,none⟩,1,1⟩ dH dH dH ⟨some ⟨b5,0,none⟩,1,1⟩ dH dH:=by have d:∀k:Int,(-9223372036854775808<=k/\k<=9223372036854775807)->i64 k:=fun k h=>h;have B:=afD (α:=aJ) (W:=W) (M:= []) (b:=b5) (x:=exX p f) (cs:=abw p f be) (sS (x:=exX p f) ⟨hp,d 1 oR,d 1 oR,d (-1) oR⟩ ⟨d 8 oR,d 2 oR,d 1 oR⟩ (h.ex.less (fun q h=>by cases h))) oO (fun j u n=>(h.fr.at_ b5 _ oO j u n).1);exact⟨h.cr.less (fun q h=>by cases h),Sl.Es _ _,Sl.Es _ _,Sl.Es _ _,B,Sl.Es _ _,Sl.Es _ _,d 0 oR⟩
theorem OnS.put{j:Nat}{u0 u:Value}{p':Int}{f':Bool}(h:OnS w W p f bc be b5)(hj:(abw p f be)[j]?=some u0)(hs:(abw p f be).set j u=abw p' f' be):OnS w (W.setCell ⟨b5,j,none⟩ u) p' f' bc be b5/\Keeps [b5] W (W.setCell ⟨b5,j,none⟩ u):=by have k:Keeps [b5] W (W.setCell ⟨b5,j,none⟩ u):=(cF _ _).setCell (p:=⟨b5,j,none⟩) (.inl oO) _;have f2:=Fr.qY (L:= []) (b:=b5) (C:=abw p f be) h.fr (fun c e d=>by cases d) hj u;rw[hs]at f2;exact⟨⟨h.cr.keep k,h.ex.keep k,f2⟩,k⟩
end
def OnP(w:World)(e:Ending)(w':World):Prop:=∃bc be b5:Nat,e=.returned (.agg (onC bc b5).toArray)/\OnS w w' 1 false bc be b5
attribute [irreducible] OnP
theorem abK(w:World):Calls prog 19 #[] w (OnP w):=by
 refine wid ?_;obtain⟨j,G⟩:=aC (w.alloc (.cells nR.toArray 28));have E:Fr w j ([]++ [(w.heap.size,nR)]):=by rw[<-G];exact(Fr.nil w).a w nR 28
 have J:j.heap.size=w.heap.size+1:=by rw[<-G];simp
 have hM:b_ [w.heap.size] j:=fun q d=>by rw[bE]at d;omega
 obtain⟨e,t⟩:=aC (j.alloc (.cells #[.int .i64 2,.string ⟨#[99]⟩,.int .i64 0,.int .i64 0,.slice none 0 0] 66));have H:e.heap.size=w.heap.size+1+1:=by rw[<-t];simp[J]
 have A:Below j j e:=by rw[<-t];exact bel
 have F1:Fr w e ([]++ [(w.heap.size,nR)]++ [(w.heap.size+1, [.int .i64 2,.string ⟨#[99]⟩,.int .i64 0,.int .i64 0,.slice none 0 0])]):=by rw[<-t];exact E.a (w+1) _ 66 J.symm
 have o1:=aW F1;have q2:=aN (F1.aQ 1 2);have q3:=aN (F1.aQ 1 3);have q4:=aN (F1.aQ 1 4);obtain⟨g,v⟩:=aC (e.alloc (.cells #[.string ⟨#[99]⟩,.int .i64 0,.int .i64 3,.int .i64 1,.int .i64 1,.int .i64 0,.bool false] 59));have n:Sl bT g [w.heap.size] (some ⟨e,0,none⟩) 1 1 [exY]:=by rw[<-v];exact lN (hM.le A.size) 59 [exY] oO (wH (α:=bT) (x:=exY) (afC j1 j1 j1 j1 j1))
 rw[H]at n;have I:g.heap.size=w.heap.size+1+1+1:=by rw[<-v];simp[H]
 have r:Below e e g:=by rw[<-v];exact bel
 have o2:=aW (F1.go r);obtain⟨h,y⟩:=aC (g.alloc (.cells #[.int .i64 2,.string ⟨#[99]⟩,.int .i64 0,.int .i64 0,.slice none 0 0] 66));have o:Sl aU h [w.heap.size] (some ⟨g,0,none⟩) 1 1 [exA]:=by rw[<-y];exact lN ((hM.le A.size).le r.size) 66 [exA] oO (wH (kH.of j3 (Sl.Es _ _)))
 rw[I]at o;have y3:h.heap.size=w.heap.size+1+1+1+1:=by rw[<-y];simp[I]
 have B:Below g g h:=by rw[<-y];exact bel
 obtain⟨l,F⟩:=aC (h.alloc (.cells (abw 1 false (w.heap.size+1+1+1)).toArray 68));have hb4:Below h h l:=by rw[<-F];exact bel
 have F4:Fr w l ([]++ [(w.heap.size,nR)]++ [(w.heap.size+1, [.int .i64 2,.string ⟨#[99]⟩,.int .i64 0,.int .i64 0,.slice none 0 0])]++ [(w.heap.size+1+1+1+1,abw 1 false (w.heap.size+1+1+1))]):=by rw[<-F];exact((F1.go r).go B).a (w+1+1+1+1) _ 68 y3.symm
 have o3:=aW F4;replace n:=((n.more (b:=w+1+1+1+1) oE).go B).go hb4;replace o:=(o.more (b:=w+1+1+1+1) oE).go hb4;obtain⟨U,z⟩:=aC (fM l w.heap.size 0 (onC (w.heap.size+1+1) (w.heap.size+1+1+1+1)));obtain⟨a1,D⟩:=iO (w:=l) (b:=w) (vs:=nR) (us:=onC (w.heap.size+1+1) (w.heap.size+1+1+1+1)) (fun i u O=>F4.at_ w.heap.size nR oO i u O) rfl z;have L:=z;simp only[fM,dm,Nat.reduceAdd,exR]at L;have C:Keeps [w.heap.size+1+1+1+1,w.heap.size] l U:=D.k.mono fun q d=>by simp at d |-;exact .inr d
 have K:=Hd (show OnS w U 1 false (w.heap.size+1+1) (w.heap.size+1+1+1) (w.heap.size+1+1+1+1)from⟨(n.keep C).less (fun q d=>by simp at d |-;exact .inl d),(o.keep C).less (fun q d=>by simp at d |-;exact .inl d),(F4.only (L':= [(w+1+1+1+1,abw 1 false (w.heap.size+1+1+1))]) (fun x hx=>by simp at hx |-;exact .inr (.inr hx))).kb D pc (fun c vs N=>by simp at N;omega)⟩);have R:=(a1 0 _ rfl).1;have S:=(a1 1 _ rfl).1;have T:=(a1 2 _ rfl).1;have X:=(a1 3 _ rfl).1;have Y:=(a1 4 _ rfl).1;have Z:=(a1 5 _ rfl).1;have u6:=(a1 6 _ rfl).1;have u7:=(a1 7 _ rfl).1;have u8:=(a1 8 _ rfl).1;clear n o C A r B hb4 hM E F1 F4 a1 D z;refine ent func19 rfl ntmps19 ?_;gi_wp2;refine⟨rfl,.agg (onC (w.heap.size+1+1) (w.heap.size+1+1+1+1)).toArray,by simp[results,go_sem,exR,R,S,T,X,Y,Z,u6,u7,u8],?_⟩;unfold OnP;exact⟨_,_,_,rfl,K.out⟩
theorem aq(w:World)(hm:i64 m):Calls prog 20 #[.int .i64 m] w fun e w'=>∃s:dK,e=.returned (.agg (dI s dH dH dH).toArray)/\Sl (List Int) w' [] s.A s.n s.c [[m]]/\Below w w w':=by
 refine wid ?_;obtain⟨g,D⟩:=aC (w.alloc (.cells #[.slice none 0 0,.slice none 0 0,.slice none 0 0,.slice none 0 0] 42));have z:Fr w g ([]++ [(w.heap.size,dI dH dH dH dH)]):=by rw[<-D];exact(Fr.nil w).a w (dI dH dH dH dH) 42
 have F:g.heap.size=w.heap.size+1:=by rw[<-D];simp
 have hM:b_ [w.heap.size] g:=fun q H=>by rw[bE]at H;omega
 obtain⟨d,l⟩:=aC (g.alloc (.cells #[.int .i64 m] 3));have t:Sl Int d [w.heap.size] (some ⟨g,0,none⟩) 1 1 [m]:=by rw[<-l];exact lN hM 3 [m] oO (wH (α:=Int) (x:=m) ⟨rfl,hm⟩)
 rw[F]at t;have O:d.heap.size=w.heap.size+1+1:=by rw[<-l];simp[F]
 have r:Below g g d:=by rw[<-l];exact bel
 obtain⟨h,C⟩:=aC (d.alloc (.cells #[.slice (some ⟨w+1,0,none⟩) 1 1] 26));have v:Sl (List Int) h [w.heap.size] (some ⟨d,0,none⟩) 1 1 [[m]]:=by rw[<-C];exact lN (hM.le r.size) 26 [[m]] oO (wH (α:=List Int) (x:= [m]) ⟨_,_,_,rfl,t⟩)
 rw[O]at v;have E:Below d d h:=by rw[<-C];exact bel
 have j:=(z.go r).go E;have R:=aW j;have S:=aN (j.aQ 0 1);have T:=aN (j.aQ 0 2);have X:=aN (j.aQ 0 3);obtain⟨U,o⟩:=aC (fM h w.heap.size 0 (dI ⟨some ⟨w+1+1,0,none⟩,1,1⟩ dH dH dH));obtain⟨a1,y⟩:=iO (w:=h) (b:=w) (vs:=dI dH dH dH dH) (us:=dI ⟨some ⟨w+1+1,0,none⟩,1,1⟩ dH dH dH) (fun i u I=>j.at_ w.heap.size (dI dH dH dH dH) oO i u I) rfl o;have G:=o;simp only[fM,dm,Nat.reduceAdd]at G;have B:=Hd2 ((v.keep y.k).less (M':= []) pf) (j.bl.trans (y.bl.mono pc));have J:=(a1 0 _ rfl).1;have K:=(a1 1 _ rfl).1;have L:=(a1 2 _ rfl).1;have N:=(a1 3 _ rfl).1;clear t v r E hM z j a1 y o;refine ent func20 rfl ntmps20 ?_;gi_wp2;refine⟨rfl,.agg (dI ⟨some ⟨w+1+1,0,none⟩,1,1⟩ dH dH dH).toArray,by simp[results,go_sem,J,K,L,N],⟨some ⟨w+1+1,0,none⟩,1,1⟩,rfl,B.a,B.u⟩
end
