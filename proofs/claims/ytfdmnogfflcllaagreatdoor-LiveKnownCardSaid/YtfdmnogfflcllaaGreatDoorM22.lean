/- Lemmas. -/
import Derived.Laws.StructEq
import Derived.Lib.Strings
import Derived.Laws.EntriesVeiled
import Derived.Test.YtfdmnogfflcllaaGreatDoorM20
set_option linter.unusedVariables false
set_option linter.unusedSimpArgs false
set_option maxRecDepth 100000
set_option maxHeartbeats 20000000
namespace Go.Proofs.YtfdmnogfflcllaaGreatDoor
open Go.Proofs.Tryz Go.RowKit Go.Shelf
theorem Bv{p:Prop}(h:p:=by
 gi_wp2_with (refine Cl gf t.out ?_;rintro e J ⟨rfl,r⟩;have u:=Hd r;clear r)
 exact⟨⟨k+1,oE,by go_num,u⟩,by simp[intOf];omega⟩):p:=h
theorem EP{p:Prop}(h:p:=by have e:k=n:=oE;subst e;gi_wp2;go_ret;exact⟨rfl,h.out⟩):p:=h
variable {w w0 W0 W W':World}{M:List Nat}{A:Option Addr}{n c k m b yv wv s gf:Nat}{l l':List bK}{x:aU}{cs:List Value}{P:Program}{R:Ending→World→Prop}{caps:Array Value}
theorem Sl.xQ{x:bK}(h:Sl bK w M A n c l)(hk:l[k]?=some x):∃b o,A=some ⟨b,o,none⟩/\(w.cell? ⟨b,o+k*3,none⟩=some (.int .i64 x.1)/\w.cell? ⟨b,o+k*3+1,none⟩=some (.string x.2.1)/\w.cell? ⟨b,o+k*3+2,none⟩=some (.int .i64 x.2.2)):=by obtain⟨b,o,e,rfl,a,d⟩:=h.get hk;obtain⟨rfl,-⟩:=rd_key a;exact⟨b,o,rfl,d.2 0 _ rfl,d.2 1 _ rfl,d.2 2 _ rfl⟩
theorem Ro(a b:ByteArray):(a.toList==b.toList)=decide (a=b):=by
 by_cases h:a=b;·subst h;simp
 rw[cE h,cU];exact fun e=>h (nB (Array.ext' (by rwa [Lib.toList_data,Lib.toList_data]at e)))
theorem Qd(x y:bK)(w:World):(binOp .neq 113 (.agg #[.int .i64 x.1,.string x.2.1,.int .i64 x.2.2]) (.agg #[.int .i64 y.1,.string y.2.1,.int .i64 y.2.2])).run prog w=.ok (.bool (!decide (x=y))) w:=by
 have e:decide (x=y)=(decide (x.1=y.1)&&(decide (x.2.1=y.2.1)&&decide (x.2.2=y.2.2))):=by obtain⟨a,b,c⟩:=x;obtain⟨d,f,g⟩:=y;simp[eV]
 rw[e,<-Ro];by_cases h:x.1=y.1
 ·by_cases i:x.2.1.toList=y.2.1.toList
  ·by_cases r:x.2.2=y.2.2;·go_simp
   go_simp
  go_simp
 go_simp
theorem U5{x y:bK}(hx:l[k]?=some x)(hy:l'[k]?=some y):decide (l.drop k=l'.drop k)=(decide (x=y)&&decide (l.drop (k+1)=l'.drop (k+1))):=by obtain⟨a,d⟩:=bj.1 hx;obtain⟨r,D⟩:=bj.1 hy;have G:=cT a;have N:=cT r;rw[G,N,d,D];simp only[mC,Bool.decide_and]
theorem Ya{M':List Nat}{B:Option Addr}{d:Nat}(hx:Sl bK w M A n c l)(hy:Sl bK w M' B m d l'):
 CB 200 #[.slice A n c,.slice B m d] (.bool (decide (l=l'))) w:=by
 refine wid ?_;have h:=hx.len;have j:=hy.len;have S:=hx.small;by_cases G:n=m
 ·subst G;have H:=Hd2 hx hy;have HL:=Hd2 h j;have z:=Hd (bw w w);have C:=Hd (show decide (l.drop 0=l'.drop 0)=decide (l=l') by simp);clear hx hy h j;refine ent func200 rfl ntmps200 ?_;gi_wp2;gi_loopw[13] (fun i wr=>∃k:Nat,k<=n/\i=.int .i64 k/\Hid (Below w w wr)/\Hid (decide (l.drop k=l'.drop k)=decide (l=l'))) (fun i _=>n-(intOf i).toNat);case atStart=>exact⟨0,bO _,rfl,z,C⟩
  case round=>
   obtain⟨k,D,rfl,f,g⟩:=hrel;by_cases o:k<n
   ·obtain⟨x,r⟩:=dW l k (by rw[HL.a];exact o);obtain⟨y,t⟩:=dW l' k (by rw[HL.u];exact o);have v:=Hd (U5 r t);obtain⟨b1,T,rfl,J,K,L⟩:=(H.a.go f.out).xQ r;obtain⟨b2,U,rfl,N,O,Q⟩:=(H.u.go f.out).xQ t;obtain⟨q,p⟩:=aC (decide (x=y));have I:=Qd x y;rw[p]at I;have Z:=Hd p;have v0:=ah J;have v1:=ah K;have v2:=ah L;have v3:=ah N;have V:=ah O;have X:=ah Q;clear r t p;gi_wp2;refine ak [] (List.range 9) oF oF ?_;refine eH ?_;refine aK ?_;refine lit ?_;cases q;·gi_wp2;go_ret;exact⟨by rw[<-g.out,v.out,Z.out];rfl,f.out.drew⟩
    gi_wp2;exact⟨⟨k+1,oE,by go_num,f.out.drew,Hd (by rw[<-g.out,v.out,Z.out,ff])⟩,by simp[intOf];omega⟩
   ·have E:k=n:=oE;clear D o;subst E;have F:=Hd (show decide (l=l')=true by
     rw[<-g.out,cA (by rw[HL.a];exact bh _),cA (by rw[HL.u];exact bh _)];rfl)
    gi_wp2;go_ret;exact⟨by rw[F.out];rfl,f.out⟩
 ·have F:=Hd (show decide (l=l')=false from cE fun e=>by subst e;omega);clear hx hy h j;refine ent func200 rfl ntmps200 ?_;gi_wp2;go_ret;exact⟨by rw[F.out];rfl,bw _ _⟩
section
attribute [local go_sem] cK
def Df(w:World)(A:Option Addr)(k:Nat):List Value:=(List.range 5).map fun j=>(w.cell? ⟨(A.getD ⟨0,0,none⟩).block,(A.getD ⟨0,0,none⟩).off+k*5+j,none⟩).getD undef
def XI:List Value->Option Addr
 | [_,_,_,_,.slice A _ _]=>A
 |_=>none
mutual
def valsE(w:World):aU->List Value->List (List Value)
 | .mk _ _ _ _ l,cs=>cs::oZ w l (XI cs) 0
def oZ(w:World):List aU->Option Addr->Nat->List (List Value)
 | [],_,_=> []
 |x::l,A,k=>valsE w x (Df w A k)++oZ w l A (k+1)
end
mutual
def iZ:aU->List aU
 | .mk k s n d l=>.mk k s n d l::Ah l
def Ah:List aU->List aU
 | []=> []
 |x::l=>iZ x++Ah l
end
theorem KC(w:World)(x:aU)(cs:List Value):valsE w x cs=cs::oZ w x.l (XI cs) 0:=by cases x;rw[valsE];rfl
theorem lW(x:aU):iZ x=x::Ah x.l:=by cases x;rw[iZ];rfl
theorem vP(w:World)(A:Option Addr){l:List aU}(h:l[k]?=some x):oZ w (l.drop k) A k=valsE w x (Df w A k)++oZ w (l.drop (k+1)) A (k+1):=by rw[cT (bj.1 h).1,(bj.1 h).2,oZ]
theorem qF{y x:aU}:∀{l:List aU},x∈l->y∈iZ x->y∈Ah l
 |z::l,hx,hy=>by
  rw[Ah];rcases cB.1 hx with rfl|hx;·exact df _ hy
  exact cL _ (qF hx hy)
theorem Vd{o:Nat}{es:List Value}(h:wR w M b (o+k*5) es)(hl:es.length=5):Df w (some ⟨b,o,none⟩) k=es:=by
 unfold Df;apply lB;·simp[hl]
 intro j a d;have:=h.2 j es[j] (bX d);simp[this]
theorem Qg{y:aU}(h:kH w M x cs)(hk:x.l[k]?=some y):kH w M y (Df w (XI cs) k)/\∃b o,XI cs=some ⟨b,o,none⟩/\wR w M b (o+k*5) (Df w (XI cs) k):=by
 cases h with
 | @mk kind n d name l A m c es hi hl hc hr hs hb hx=>
   rcases hb with g|⟨b,o,rfl,g⟩;·rw[show(aU.mk kind name n d l).l=l from rfl,g]at hk;simp at hk
   ·have f:=(bj.1 hk).1;have a:=hx k y hk;have e:Df w (XI [.int .i64 kind,.string name,.int .i64 n,.int .i64 d,.slice (some ⟨b,o,none⟩) m c]) k=es k:=Vd (g k f) a.len;rw[e];exact⟨a,b,o,rfl,g k f⟩
theorem KD:∀(x:aU) {w:World}{M:List Nat}{cs c:List Value},kH w M x cs->c∈valsE w x cs->∃y,y∈iZ x/\kH w M y c:=by
 intro x
 induction x using iY with
 |_ x ih=>
 intro w M cs c h I;rw[KC]at I;rw[lW];rcases cB.1 I with rfl|I;·exact⟨x,cd,h⟩
 have o:∀(j k:Nat),x.l.length-k=j->c∈oZ w (x.l.drop k) (XI cs) k->∃y,y∈Ah x.l/\kH w M y c:=by
  intro j
  induction j with
  |zero=>intro k i a;rw[cA oE,oZ]at a;cases a
  |succ j ihj=>
   intro k i a;have f:k<x.l.length:=oE;have g:x.l[k]?=some x.l[k]:=bX f;rw[vP w (XI cs) g]at a;rcases cR.1 a with a|a;·obtain⟨y,d,e⟩:=ih _ (gm f) (Qg h g).1 a;exact⟨y,qF (gm f) d,e⟩
   ·exact ihj (k+1) oE a
 obtain⟨y,d,e⟩:=o _ 0 rfl (by rwa [fh]);exact⟨y,bz _ d,e⟩
theorem GR(w:World)(A:Option Addr)(l:List aU):∀k,k<=l.length->∃p,oZ w l A 0=p++oZ w (l.drop k) A k
 |0,_=>⟨[],oO⟩
 |k+1,h=>by obtain⟨p,hp⟩:=GR w A l k oE;rw[vP w A (bX (show k<l.length by omega))]at hp;exact⟨_,by rw[hp,<-d_]⟩
abbrev vS:List Value->Array Value:=fun c=>#[.agg c.toArray]
theorem Ja{m':Nat}{l:Nat}{f:FuncId}{tmps:Array Value}{assign body:Code}(h:RoundIn Wd m P l f tmps assign body w R):RoundIn Wd m' P l f tmps assign body w R:=⟨h.1,fun c cs _=>h.2 c cs (fun d hd=>by cases hd)⟩
structure WkI(w0 W0 W:World)(M:List Nat)(yv wv l:Nat):Prop where
 kt:bn W0.heap.size M W0 W
 k0:Keeps M w0 W0
 hM:∀k,k∈M->k<W0.heap.size
 y0:W0.heap.size<=yv
 v0:W0.heap.size<=wv
 y:W.cell? ⟨yv,0,none⟩=some (.func (.yield l) #[] #[])
 v:W.cell? ⟨wv,0,none⟩=some (.func (.func 219) #[] #[.pointer (some ⟨yv,0,none⟩),.pointer (some ⟨wv,0,none⟩)])
theorem WkI.to{l:Nat}(h:WkI w0 W0 W M yv wv l)(hs:s=W.heap.size)(k:bn s M W W'):WkI w0 W0 W' M yv wv l:=by subst hs;exact⟨h.kt.trans ⟨k.size,fun b hb a=>k.block b (cf hb h.kt.size) a⟩,h.k0,h.hM,h.y0,h.v0,k.IC (bu W _ h.y) (fun e=>by have e:yv∈M:=e;have:=h.hM _ e;have:=h.y0;omega) h.y,k.IC (bu W _ h.v) (fun e=>by have e:wv∈M:=e;have:=h.hM _ e;have:=h.v0;omega) h.v⟩
theorem walk_any{l:Nat}{XS:List (Array Value)}(J:List (Array Value)->World->Prop)(Jx:World->Prop)(Jp:List PanicEntry->World->Prop)(hJ:∀r,jC W0.heap.size (J r))
 (mO:∀s x rest W1,(∃pre,XS=pre++x::rest)->W0.heap.size<=s->s<=W1.heap.size->bn W0.heap.size M W0 W1->J (x::rest) W1->YieldAt Wd 8 prog l x W1 fun e W2=>(e=.returned (.bool true)/\J rest W2/\bn s M W1 W2)\/(e=.returned (.bool false)/\Jx W2)\/(∃ch,e=.panicked ch/\Jp ch W2)):
 ∀(x:aU) {cs:List Value}{rest:List (Array Value)}{W:World},kH w0 M x cs->WkI w0 W0 W M yv wv l->(∃pre,XS=pre++((valsE w0 x cs).map vS++rest))->J ((valsE w0 x cs).map vS++rest) W->Calls prog 219 #[.agg cs.toArray,.pointer (some ⟨yv,0,none⟩),.pointer (some ⟨wv,0,none⟩)] W fun e W'=>
   (e=.returned (.bool true)/\J rest W'/\bn W.heap.size M W W')\/(e=.returned (.bool false)/\Jx W')\/(∃ch,e=.panicked ch/\Jp ch W'):=by
 intro x
 induction x using iY with
 |_ x ih=>
 intro cs rest W hr V I hj;refine om (n:=9) |>.1 ?_;obtain⟨A,m,c,rfl,-,aa⟩:=kH.sl hr;have ae:=aa.len;have an:=aa.small;obtain⟨W1,ac⟩:=aC (W.alloc (.cells #[.int .i64 x.kind,.string x.name,.int .i64 x.n,.int .i64 x.d,.slice A m c] 66));have F1:Fr W W1 [(W, [.int .i64 x.kind,.string x.name,.int .i64 x.n,.int .i64 x.d,.slice A m c])]:=by rw[<-ac];exact(Fr.nil W).a W.heap.size _ _
 have Y:bn W.heap.size M W W1:=(a_ F1.bl M).to pc;have j:=V.to rfl Y;have X:J ((valsE w0 x [.int .i64 x.kind,.string x.name,.int .i64 x.n,.int .i64 x.d,.slice A m c]).map vS++rest) W1:=by rw[<-ac];exact(hJ _).alloc _ hj
 rw[KC]at X I;have ZP:=I;obtain⟨fn,aq,ak,al,hy,hR⟩:=mO W1.heap.size _ _ W1 ZP j.kt.size pc j.kt X
 dsimp only[vS,fg]at hy
 have ap:=j.y;have ao:=j.v;have aj:W.heap.size<W1.heap.size:=F1.mJ 0;have HR:=Hd2 (Ja (m':=8) hR) aj;have H:=Zw hr j I ae Y V.kt.size;have IH:=Hd ih;have HF:=Hd F1;refine op1 F1 ?_;intros;clear hr V j I ZP hj X Y hR F1 ih ae aa;refine ent func219 rfl ntmps219 ?_
 gi_wp2_with (first
  |(refine HR.a.mono ?_;rintro e W3 (⟨rfl,hJ3,hk3⟩|⟨rfl,hx3⟩|⟨ch,rfl,hp3⟩);all_goals try have c4:=hk3.IC (o:=4) HR.u (fun e=>by have:=H.b.hM _ e;have:=H.y;omega) (HF.out.aQ 0 4))
  |fail)
 rotate_left;·go_ret;exact .inr (.inl ⟨rfl,hx3⟩)
 ·exact⟨rfl,.inr (.inr ⟨ch,rfl,hp3⟩)⟩
 have ah:=Hd2 hJ3 hk3;clear hJ3 hk3;gi_loopw[14] (fun i wr=>∃k:Nat,k<=m/\i=.int .i64 k/\Hid (J ((oZ w0 (x.l.drop k) A k).map vS++rest) wr/\bn W1.heap.size M W1 wr)) (fun i _=>m-(intOf i).toNat);case atStart=>exact⟨0,bO _,rfl,by rw[fh];exact ah⟩
 case round=>
  obtain⟨k,hk,rfl,g⟩:=hrel;by_cases am:k<m
  ·obtain⟨y,L⟩:=dW x.l k (by have:=H.d;omega);obtain⟨t,b,o,S,ag⟩:=Qg H.a L;have S:A=some ⟨b,o,none⟩:=S;subst S;have B:=H.b.to rfl g.u;have f:=ag.keep (B.k0.Uh B.kt B.k0.size);have K:=vP w0 (some ⟨b,o,none⟩) L;obtain⟨D,F,z,ec,-,ai⟩:=kH.sl t;simp only[show XI [.int .i64 x.kind,.string x.name,.int .i64 x.n,.int .i64 x.d,.slice (some ⟨b,o,none⟩) m c]=some ⟨b,o,none⟩from rfl]at ec t f;rw[ec]at t f K;obtain⟨G,ab⟩:=aC (wr.alloc (.cells #[.int .i64 y.kind,.string y.name,.int .i64 y.n,.int .i64 y.d,.slice D F z] 66));have N:Fr wr G [(wr, [.int .i64 y.kind,.string y.name,.int .i64 y.n,.int .i64 y.d,.slice D F z])]:=by rw[<-ab];exact(Fr.nil wr).a wr.heap.size _ _
   have C:bn wr.heap.size M wr G:=(a_ N.bl M).to pc;have T:=B.to rfl C;have ad:J ((valsE w0 y [.int .i64 y.kind,.string y.name,.int .i64 y.n,.int .i64 y.d,.slice D F z]).map vS++((oZ w0 (x.l.drop (k+1)) (some ⟨b,o,none⟩) (k+1)).map vS++rest)) G:=by have:=g.a;rw[K,eO,d_]at this;rw[<-ab];exact(hJ _).alloc _ this
   have af:∃pre,XS=pre++((valsE w0 y [.int .i64 y.kind,.string y.name,.int .i64 y.n,.int .i64 y.d,.slice D F z]).map vS++((oZ w0 (x.l.drop (k+1)) (some ⟨b,o,none⟩) (k+1)).map vS++rest)):=by obtain⟨pre,Z⟩:=H.c;obtain⟨p,h⟩:=GR w0 (some ⟨b,o,none⟩) x.l k (by have:=H.d;omega);simp only[show XI [.int .i64 x.kind,.string x.name,.int .i64 x.n,.int .i64 x.d,.slice (some ⟨b,o,none⟩) m c]=some ⟨b,o,none⟩from rfl]at Z;rw[h,K]at Z;refine⟨pre++(([[.int .i64 x.kind,.string x.name,.int .i64 x.n,.int .i64 x.d,.slice (some ⟨b,o,none⟩) m c]]:List (List Value))++p).map vS,Z.trans ?_⟩;simp only[fg,ix,eO,d_,dx,de]
   have hc:=IH.out y (aR L) t T af ad;have h0:wr.cell? ⟨b,o+k*5,none⟩=some (.int .i64 y.kind):=f.2 0 _ rfl;have h1:wr.cell? ⟨b,o+k*5+1,none⟩=some (.string y.name):=f.2 1 _ rfl;have h2:wr.cell? ⟨b,o+k*5+2,none⟩=some (.int .i64 y.n):=f.2 2 _ rfl;have h3:wr.cell? ⟨b,o+k*5+3,none⟩=some (.int .i64 y.d):=f.2 3 _ rfl;have h4:wr.cell? ⟨b,o+k*5+4,none⟩=some (.slice D F z):=f.2 4 _ rfl;have w1:=T.v;have O:=fB hc (g.u.trans ⟨C.size,fun q h E=>C.block q (cf h g.u.size) E⟩) (show W1.heap.size<=G.heap.size from cD g.u.size C.size);refine op1 N ?_;intros;clear hc af ad C T B ag f t K ai N L
   gi_wp2_with (first
    |(refine Cl 219 O.a ?_;rintro e W4 (⟨rfl,hJ4,hk4⟩|⟨rfl,hx4⟩|⟨ch,rfl,hp4⟩))
    |fail)
   ·exact⟨⟨k+1,oE,by go_num,hJ4,O.b.trans ⟨hk4.size,fun q h E=>hk4.block q (cf h O.v) E⟩⟩,by simp[intOf];omega⟩
   ·go_ret;exact .inr (.inl ⟨rfl,hx4⟩)
   exact⟨rfl,.inr (.inr ⟨ch,rfl,hp4⟩)⟩
  ·have U:=g.out;rw[cA (by have:=H.d;omega),oZ]at U;have Q:=Hd U;clear g U;gi_wp2;go_ret;exact .inl ⟨rfl,Q.a,H.e.trans ⟨Q.u.size,fun q h E=>Q.u.block q (cf h H.e.size) E⟩⟩
theorem xR{b1:Nat}(hx:kH w0 M x cs)(hc:∀i u,cs[i]?=some u->w0.cell? ⟨b1,i,none⟩=some u)(m1:b1∉M)(hM:∀k,k∈M->k<w0.heap.size):
 Yields Wd prog 218 #[.pointer (some ⟨b1,0,none⟩)] w0 M ((valsE w0 x cs).map vS):=by
 intro l J B z W f g I j t;have q:=hx;obtain⟨A,m,c,rfl,-,-⟩:=kH.sl q;obtain⟨W1,y⟩:=aC ((W.alloc (.cells #[.func (.yield l) #[] #[]] 208)).alloc (.cells #[.func (.func 219) #[] #[.pointer (some ⟨W,0,none⟩),.pointer (some ⟨W+1,0,none⟩)]] 208));have F1:Fr W W1 [(W, [.func (.yield l) #[] #[]]),(W+1, [.func (.func 219) #[] #[.pointer (some ⟨W,0,none⟩),.pointer (some ⟨W+1,0,none⟩)]])]:=by rw[<-y];exact((Fr.nil W).a W.heap.size _ _).a (W+1) _ _
 have r:bn W.heap.size M W W1:=(a_ F1.bl M).to pc;have h:WkI w0 W W1 M W.heap.size (W.heap.size+1) l:=⟨r,f,fun k C=>cf (hM k C) f.size,bh _,iH _,F1.aQ 0 0,F1.aQ 1 0⟩;have o:J ((valsE w0 x [.int .i64 x.kind,.string x.name,.int .i64 x.n,.int .i64 x.d,.slice A m c]).map vS++ []) W1:=by rw[ef,<-y];exact(g _).alloc _ ((g _).alloc _ j)
 have v:=Hd (walk_any J B z g t x hx h ⟨[],oO⟩ o);have E:W1.cell? ⟨b1,0,none⟩=_:=(F1.bl.cell (p:=⟨b1,0,none⟩) (bu W _ (f.cell m1 (hc 0 _ rfl)))).trans (f.cell m1 (hc 0 _ rfl));have G:W1.cell? ⟨b1,1,none⟩=_:=(F1.bl.cell (p:=⟨b1,1,none⟩) (bu W _ (f.cell m1 (hc 1 _ rfl)))).trans (f.cell m1 (hc 1 _ rfl));have N:W1.cell? ⟨b1,2,none⟩=_:=(F1.bl.cell (p:=⟨b1,2,none⟩) (bu W _ (f.cell m1 (hc 2 _ rfl)))).trans (f.cell m1 (hc 2 _ rfl));have F:W1.cell? ⟨b1,3,none⟩=_:=(F1.bl.cell (p:=⟨b1,3,none⟩) (bu W _ (f.cell m1 (hc 3 _ rfl)))).trans (f.cell m1 (hc 3 _ rfl));have H:W1.cell? ⟨b1,4,none⟩=_:=(F1.bl.cell (p:=⟨b1,4,none⟩) (bu W _ (f.cell m1 (hc 4 _ rfl)))).trans (f.cell m1 (hc 4 _ rfl));refine op1 F1 ?_;intros;clear hx q hc f h o t j F1 r;simp only[fk,dx,de];refine ent func218 rfl ntmps218 ?_
 gi_wp2_with (first
  |(refine Cl 219 v.out ?_;rintro e D (⟨rfl,hJ4,hk4⟩|⟨rfl,hx4⟩|⟨ch,rfl,hp4⟩))
  |fail)
 ·go_end0;exact .inl ⟨⟨_,rfl⟩,.inl hJ4⟩
 ·go_end0;exact .inl ⟨⟨_,rfl⟩,.inr hx4⟩
 ·exact⟨rfl,.inr ⟨ch,rfl,hp4⟩⟩
theorem Dh(x:aU)(A:Option Addr)(m c:Nat)(w:World):
 Calls prog 164 #[.agg #[.int .i64 x.kind,.string x.name,.int .i64 x.n,.int .i64 x.d,.slice A m c]] w fun e w'=>e=.returned (.func (.func 218) #[] #[.pointer (some ⟨w,0,none⟩)])/\w.alloc (.cells #[.int .i64 x.kind,.string x.name,.int .i64 x.n,.int .i64 x.d,.slice A m c] 66)=w':=by
 refine wid ?_;refine ent func164 rfl ntmps164 ?_;gi_wp2;go_ret;exact⟨rfl,rfl⟩
abbrev u_(p:Int)(n r:Bool):Value:=.agg #[.int .i64 p,.bool n,.bool r]
def vT:List (Int×Value):= [(11,u_ 4 false false),(10,u_ 2 false false),(9,u_ 2 false false),(8,u_ 1 true false),(7,u_ 2 false false),(6,u_ 2 false false),(5,u_ 0 false true),(4,u_ 0 false false),(3,u_ 0 false false),(2,u_ 0 false true),(1,u_ 0 true false)]
abbrev Jb:List Value:= [u_ 0 false false,u_ 0 true false,u_ 0 false true,u_ 2 false false,u_ 1 true false,u_ 4 false false]
theorem Rq(w:World):(Instr.makeMap 284 none).run prog w=.ok (.map (some w.heap.size)) (w.alloc (.map #[] 0)):=by rfl
theorem NZ(w:World):(zeroValue 287).run prog w=.ok (u_ 0 false false) w:=oF
theorem N7(w:World):Calls prog 253 #[] w fun e w'=>∃n,e=.returned (.map (some w.heap.size))/\MV Jb w' w.heap.size n (qZ vT)/\Below w w w':=by
 refine wid ?_;have S:=Rq;obtain⟨w0,B⟩:=aC (w.alloc (.map #[] 0));have f:MV Jb w0 w.heap.size 0 (fun _=>none):=by rw[<-B];exact MV.new _ w
 have b:Below w w w0:=by rw[<-B];exact bel
 obtain⟨w1,T,g,D⟩:=f.store (k:=1) underlying284 oV (v:=u_ 0 true false) oO oE;replace b:=b.grown D.grown (cX f.lt) (fun q d=>by cases d;exact bh _);obtain⟨w2,X,i,G⟩:=g.store (k:=2) underlying284 oV (v:=u_ 0 false true) oO oE;replace b:=b.grown G.grown (cX g.lt) (fun q d=>by cases d;exact bh _);obtain⟨w3,Y,j,I⟩:=i.store (k:=3) underlying284 oV (v:=u_ 0 false false) oO oE;replace b:=b.grown I.grown (cX i.lt) (fun q d=>by cases d;exact bh _);obtain⟨w4,Z,o,J⟩:=j.store (k:=4) underlying284 oV (v:=u_ 0 false false) oO oE;replace b:=b.grown J.grown (cX j.lt) (fun q d=>by cases d;exact bh _);obtain⟨w5,r5,p,K⟩:=o.store (k:=5) underlying284 oV (v:=u_ 0 false true) oO oE;replace b:=b.grown K.grown (cX o.lt) (fun q d=>by cases d;exact bh _);obtain⟨w6,r6,r,L⟩:=p.store (k:=6) underlying284 oV (v:=u_ 2 false false) oO oE;replace b:=b.grown L.grown (cX p.lt) (fun q d=>by cases d;exact bh _);obtain⟨w7,r7,t,N⟩:=r.store (k:=7) underlying284 oV (v:=u_ 2 false false) oO oE;replace b:=b.grown N.grown (cX r.lt) (fun q d=>by cases d;exact bh _);obtain⟨w8,r8,y,O⟩:=t.store (k:=8) underlying284 oV (v:=u_ 1 true false) oO oE;replace b:=b.grown O.grown (cX t.lt) (fun q d=>by cases d;exact bh _);obtain⟨w9,r9,z,Q⟩:=y.store (k:=9) underlying284 oV (v:=u_ 2 false false) oO oE;replace b:=b.grown Q.grown (cX y.lt) (fun q d=>by cases d;exact bh _);obtain⟨aa,U,h,E⟩:=z.store (k:=10) underlying284 oV (v:=u_ 2 false false) oO oE;replace b:=b.grown E.grown (cX z.lt) (fun q d=>by cases d;exact bh _);obtain⟨ab,V,C,F⟩:=h.store (k:=11) underlying284 oV (v:=u_ 4 false false) oO oE;replace b:=b.grown F.grown (cX h.lt) (fun q d=>by cases d;exact bh _);have H:=Hd2 C b;clear f g i j o p r t y z h C b D G I J K L N O Q E F;refine ent func253 rfl ntmps253 ?_;gi_wp2;go_ret;exact⟨11,rfl,H.a,H.u⟩
theorem dM(n low high:Int)(w:World):CB 209 #[.int .i64 n,.int .i64 low,.int .i64 high] (.bool (decide (low<=n)&&decide (n<=high))) w:=by
 refine wid ?_;by_cases q:low<=n;·refine ent func209 rfl ntmps209 ?_;gi_wp2;go_ret;exact⟨by simp[q],bw _ _⟩
 refine ent func209 rfl ntmps209 ?_;gi_wp2;go_ret;have a:¬low<=n:=oE;exact⟨by simp[a],bw _ _⟩
theorem Di{l:List bT}(I:Nat->World->Prop)(eg:∀args w,(callFunc gf args).run prog w=.ok (.enter gf args) w)(hx:Sl bT w M A n c l)(h0:I 0 w)(hm:∀k W W',I k W->Below W W W'->I k W')(hk:∀k W,I k W->Keeps M w W)
 (hf:∀k x W cs,l[k]?=some x->Rep.rd W M x cs->I k W->Calls prog gf (#[.agg cs.toArray]++caps) W fun e w'=>e=.returned (.bool true)/\I (k+1) w'):
 Calls prog 204 #[.slice A n c,.func (.func gf) #[] caps] w fun e w'=>e=.returned (.bool true)/\I n w':=by
 refine wid ?_;have G:=hx.len;have N:=hx.small;have H:=oK hx h0 hm hk hf;clear hx h0 hm hk hf;refine ent func204 rfl ntmps204 ?_;gi_wp2;gi_loopw[9] (fun i wr=>∃k:Nat,k<=n/\i=.int .i64 k/\Hid (I k wr)) (fun i _=>n-(intOf i).toNat);case atStart=>exact⟨0,bO _,rfl,Hd H.b⟩
 case round=>
  obtain⟨k,F,rfl,h⟩:=hrel;by_cases J:k<n
  ·obtain⟨x,p⟩:=dW l k oE;obtain⟨b,o,v,rfl,j,f⟩:=(H.a.keep (H.d k wr h.out)).get p;obtain⟨rfl,-⟩:=lT j;have h0:wr.cell? ⟨b,o+k*7,none⟩=some (.string x.1):=f.2 0 _ rfl;have y:wr.cell? ⟨b,o+k*7+1,none⟩=some (.int .i64 x.2.1):=f.2 1 _ rfl;have z:wr.cell? ⟨b,o+k*7+2,none⟩=some (.int .i64 x.2.2.1):=f.2 2 _ rfl;have B:wr.cell? ⟨b,o+k*7+3,none⟩=some (.int .i64 x.2.2.2.1):=f.2 3 _ rfl;have D:wr.cell? ⟨b,o+k*7+4,none⟩=some (.int .i64 x.2.2.2.2.1):=f.2 4 _ rfl;have K:wr.cell? ⟨b,o+k*7+5,none⟩=some (.int .i64 x.2.2.2.2.2.1):=f.2 5 _ rfl;have C:wr.cell? ⟨b,o+k*7+6,none⟩=some (.bool x.2.2.2.2.2.2):=f.2 6 _ rfl;obtain⟨q,E,g,L⟩:=fP (w:=wr) ((Fr.nil wr).a wr [.string x.1,.int .i64 x.2.1,.int .i64 x.2.2.1,.int .i64 x.2.2.2.1,.int .i64 x.2.2.2.2.1,.int .i64 x.2.2.2.2.2.1,.bool x.2.2.2.2.2.2] 59);refine op1 L ?_;intros;have t:=Hd (H.x k x q [.string x.1,.int .i64 x.2.1,.int .i64 x.2.2.1,.int .i64 x.2.2.2.1,.int .i64 x.2.2.2.2.1,.int .i64 x.2.2.2.2.2.1,.bool x.2.2.2.2.2.2] p (iN j (a_ g _)) (H.c k wr q h.out g));clear p f j L g;gi_wp2_with (refine Cl gf t.out ?_;rintro e O ⟨rfl,r⟩;have u:=Hd r;clear r)
   exact⟨⟨k+1,oE,by go_num,u⟩,by simp[intOf];omega⟩
  ·exact EP
theorem Vf{l:List bW}(I:Nat->World->Prop)(eg:∀args w,(callFunc gf args).run prog w=.ok (.enter gf args) w)(hx:Sl bW w M A n c l)(h0:I 0 w)(hm:∀k W W',I k W->Below W W W'->I k W')(hk:∀k W,I k W->Keeps M w W)
 (hf:∀k x W cs,l[k]?=some x->Rep.rd W M x cs->I k W->Calls prog gf (#[.agg cs.toArray]++caps) W fun e w'=>e=.returned (.bool true)/\I (k+1) w'):
 Calls prog 206 #[.slice A n c,.func (.func gf) #[] caps] w fun e w'=>e=.returned (.bool true)/\I n w':=by
 refine wid ?_;have D:=hx.len;have F:=hx.small;have H:=oK hx h0 hm hk hf;clear hx h0 hm hk hf;refine ent func206 rfl ntmps206 ?_;gi_wp2;gi_loopw[9] (fun i wr=>∃k:Nat,k<=n/\i=.int .i64 k/\Hid (I k wr)) (fun i _=>n-(intOf i).toNat);case atStart=>exact⟨0,bO _,rfl,Hd H.b⟩
 case round=>
  obtain⟨k,C,rfl,h⟩:=hrel;by_cases E:k<n;·obtain⟨x,p⟩:=dW l k oE;obtain⟨b,o,v,rfl,j,f⟩:=(H.a.keep (H.d k wr h.out)).get p;obtain⟨rfl,-⟩:=aaJ j;have h0:wr.cell? ⟨b,o+k*3,none⟩=some (.string x.1):=f.2 0 _ rfl;have y:wr.cell? ⟨b,o+k*3+1,none⟩=some (.int .i64 x.2.1):=f.2 1 _ rfl;have z:wr.cell? ⟨b,o+k*3+2,none⟩=some (.int .i64 x.2.2):=f.2 2 _ rfl;obtain⟨q,B,g,L⟩:=fP (w:=wr) ((Fr.nil wr).a wr [.string x.1,.int .i64 x.2.1,.int .i64 x.2.2] 156);refine op1 L ?_;intros;have t:=Hd (H.x k x q [.string x.1,.int .i64 x.2.1,.int .i64 x.2.2] p (iN j (a_ g _)) (H.c k wr q h.out g));clear p f j L g;exact Bv
  ·exact EP
theorem Ye{l:List dA}(I:Nat->World->Prop)(eg:∀args w,(callFunc gf args).run prog w=.ok (.enter gf args) w)(hx:Sl dA w M A n c l)(h0:I 0 w)(hm:∀k W W',I k W->Below W W W'->I k W')(hk:∀k W,I k W->Keeps M w W)
 (hf:∀k x W cs,l[k]?=some x->Rep.rd W M x cs->I k W->Calls prog gf (#[.agg cs.toArray]++caps) W fun e w'=>e=.returned (.bool true)/\I (k+1) w'):
 Calls prog 210 #[.slice A n c,.func (.func gf) #[] caps] w fun e w'=>e=.returned (.bool true)/\I n w':=by
 refine wid ?_;have D:=hx.len;have F:=hx.small;have H:=oK hx h0 hm hk hf;clear hx h0 hm hk hf;refine ent func210 rfl ntmps210 ?_;gi_wp2;gi_loopw[9] (fun i wr=>∃k:Nat,k<=n/\i=.int .i64 k/\Hid (I k wr)) (fun i _=>n-(intOf i).toNat);case atStart=>exact⟨0,bO _,rfl,Hd H.b⟩
 case round=>
  obtain⟨k,C,rfl,g⟩:=hrel;by_cases E:k<n;·obtain⟨x,p⟩:=dW l k oE;obtain⟨b,o,v,rfl,h,j⟩:=(H.a.keep (H.d k wr g.out)).get p;obtain⟨B,m,d,rfl,-⟩:=vJ h;have h0:wr.cell? ⟨b,o+k*2,none⟩=some (.string x.1):=j.2 0 _ rfl;have y:wr.cell? ⟨b,o+k*2+1,none⟩=some (.slice B m d):=j.2 1 _ rfl;obtain⟨q,z,f,L⟩:=fP (w:=wr) ((Fr.nil wr).a wr [.string x.1,.slice B m d] 142);refine op1 L ?_;intros;have t:=Hd (H.x k x q [.string x.1,.slice B m d] p (iN h (a_ f _)) (H.c k wr q g.out f));clear p j h L f;exact Bv
  ·have e:k=n:=oE;subst e;gi_wp2;go_ret;exact⟨rfl,g.out⟩
theorem Ru{l:List aJ}(I:Nat->World->Prop)(eg:∀args w,(callFunc gf args).run prog w=.ok (.enter gf args) w)(hx:Sl aJ w M A n c l)(h0:I 0 w)(hm:∀k W W',I k W->Below W W W'->I k W')(hk:∀k W,I k W->Keeps M w W)
 (hf:∀k x W cs,l[k]?=some x->Rep.rd W M x cs->I k W->Calls prog gf (#[.agg cs.toArray]++caps) W fun e w'=>e=.returned (.bool true)/\I (k+1) w'):
 Calls prog 213 #[.slice A n c,.func (.func gf) #[] caps] w fun e w'=>e=.returned (.bool true)/\I n w':=by
 refine wid ?_;have U:=hx.len;have X:=hx.small;have H:=oK hx h0 hm hk hf;clear hx h0 hm hk hf;refine ent func213 rfl ntmps213 ?_;gi_wp2;gi_loopw[9] (fun i wr=>∃k:Nat,k<=n/\i=.int .i64 k/\Hid (I k wr)) (fun i _=>n-(intOf i).toNat);case atStart=>exact⟨0,bO _,rfl,Hd H.b⟩
 case round=>
  obtain⟨k,T,rfl,h⟩:=hrel;by_cases V:k<n
  ·obtain⟨x,p⟩:=dW l k oE;obtain⟨b,o,v,rfl,j,f⟩:=(H.a.keep (H.d k wr h.out)).get p;obtain⟨B,m,d,rfl,-⟩:=jg j;have h0:wr.cell? ⟨b,o+k*13,none⟩=some (.string x.1):=f.2 0 _ rfl;have y:wr.cell? ⟨b,o+k*13+1,none⟩=some (.int .i64 x.2.1):=f.2 1 _ rfl;have E:wr.cell? ⟨b,o+k*13+2,none⟩=some (.int .i64 x.2.2.1):=f.2 2 _ rfl;have F:wr.cell? ⟨b,o+k*13+3,none⟩=some (.int .i64 x.2.2.2.1):=f.2 3 _ rfl;have G:wr.cell? ⟨b,o+k*13+4,none⟩=some (.bool x.2.2.2.2.1):=f.2 4 _ rfl;have K:wr.cell? ⟨b,o+k*13+5,none⟩=some (.bool x.2.2.2.2.2.1):=f.2 5 _ rfl;have J:wr.cell? ⟨b,o+k*13+6,none⟩=some (.int .i64 (au x).kind):=f.2 6 _ rfl;have N:wr.cell? ⟨b,o+k*13+7,none⟩=some (.string (au x).name):=f.2 7 _ rfl;have O:wr.cell? ⟨b,o+k*13+8,none⟩=some (.int .i64 (au x).n):=f.2 8 _ rfl;have Q:wr.cell? ⟨b,o+k*13+9,none⟩=some (.int .i64 (au x).d):=f.2 9 _ rfl;have z:wr.cell? ⟨b,o+k*13+10,none⟩=some (.slice B m d):=f.2 10 _ rfl;have C:wr.cell? ⟨b,o+k*13+11,none⟩=some (.string x.2.2.2.2.2.2.2.1):=f.2 11 _ rfl;have D:wr.cell? ⟨b,o+k*13+12,none⟩=some (.int .i64 x.2.2.2.2.2.2.2.2):=f.2 12 _ rfl;obtain⟨q,S,g,L⟩:=fP (w:=wr) ((Fr.nil wr).a wr [.string x.1,.int .i64 x.2.1,.int .i64 x.2.2.1,.int .i64 x.2.2.2.1,.bool x.2.2.2.2.1,.bool x.2.2.2.2.2.1,.int .i64 (au x).kind,.string (au x).name,.int .i64 (au x).n,.int .i64 (au x).d,.slice B m d,.string x.2.2.2.2.2.2.2.1,.int .i64 x.2.2.2.2.2.2.2.2] 68);refine op1 L ?_;intros;have t:=Hd (H.x k x q [.string x.1,.int .i64 x.2.1,.int .i64 x.2.2.1,.int .i64 x.2.2.2.1,.bool x.2.2.2.2.1,.bool x.2.2.2.2.2.1,.int .i64 (au x).kind,.string (au x).name,.int .i64 (au x).n,.int .i64 (au x).d,.slice B m d,.string x.2.2.2.2.2.2.2.1,.int .i64 x.2.2.2.2.2.2.2.2] p (iN j (a_ g _)) (H.c k wr q h.out g));clear p f j L g;gi_wp2_with (refine Cl gf t.out ?_;rintro e Y ⟨rfl,r⟩;have u:=Hd r;clear r)
   exact⟨⟨k+1,oE,by go_num,u⟩,by simp[intOf];omega⟩
  ·exact EP
theorem Qh(I:Nat->World->Prop)(eg:∀args w,(callFunc gf args).run prog w=.ok (.enter gf args) w)(hx:Sl bK w M A n c l)(h0:I 0 w)(hm:∀k W W',I k W->Below W W W'->I k W')(hk:∀k W,I k W->Keeps M w W)
 (hf:∀k x W cs,l[k]?=some x->Rep.rd W M x cs->I k W->Calls prog gf (#[.agg cs.toArray]++caps) W fun e w'=>e=.returned (.bool true)/\I (k+1) w'):
 Calls prog 165 #[.slice A n c,.func (.func gf) #[] caps] w fun e w'=>e=.returned (.bool true)/\I n w':=by
 refine wid ?_;have D:=hx.len;have F:=hx.small;have H:=oK hx h0 hm hk hf;clear hx h0 hm hk hf;refine ent func165 rfl ntmps165 ?_;gi_wp2;gi_loopw[9] (fun i wr=>∃k:Nat,k<=n/\i=.int .i64 k/\Hid (I k wr)) (fun i _=>n-(intOf i).toNat);case atStart=>exact⟨0,bO _,rfl,Hd H.b⟩
 case round=>
  obtain⟨k,C,rfl,h⟩:=hrel;by_cases E:k<n;·obtain⟨x,p⟩:=dW l k oE;obtain⟨b,o,v,rfl,j,f⟩:=(H.a.keep (H.d k wr h.out)).get p;obtain⟨rfl,-⟩:=rd_key j;have h0:wr.cell? ⟨b,o+k*3,none⟩=some (.int .i64 x.1):=f.2 0 _ rfl;have y:wr.cell? ⟨b,o+k*3+1,none⟩=some (.string x.2.1):=f.2 1 _ rfl;have z:wr.cell? ⟨b,o+k*3+2,none⟩=some (.int .i64 x.2.2):=f.2 2 _ rfl;obtain⟨q,B,g,L⟩:=fP (w:=wr) ((Fr.nil wr).a wr [.int .i64 x.1,.string x.2.1,.int .i64 x.2.2] 113);refine op1 L ?_;intros;have t:=Hd (H.x k x q [.int .i64 x.1,.string x.2.1,.int .i64 x.2.2] p (iN j (a_ g _)) (H.c k wr q h.out g));clear p f j L g;exact Bv
  ·exact EP
theorem Yf{l:List Int}(I:Nat->World->Prop)(eg:∀args w,(callFunc gf args).run prog w=.ok (.enter gf args) w)(hx:Sl Int w M A n c l)(h0:I 0 w)(hm:∀k W W',I k W->Below W W W'->I k W')(hk:∀k W,I k W->Keeps M w W)
 (hf:∀k x W,l[k]?=some x->i64 x->I k W->Calls prog gf (#[.int .i64 x]++caps) W fun e w'=>e=.returned (.bool true)/\I (k+1) w'):
 Calls prog 251 #[.slice A n c,.func (.func gf) #[] caps] w fun e w'=>e=.returned (.bool true)/\I n w':=by
 refine wid ?_;have y:=hx.len;have B:=hx.small;have H:=oK hx h0 hm hk hf;clear hx h0 hm hk hf;refine ent func251 rfl ntmps251 ?_;gi_wp2;gi_loopw[9] (fun i wr=>∃k:Nat,k<=n/\i=.int .i64 k/\Hid (I k wr)) (fun i _=>n-(intOf i).toNat);case atStart=>exact⟨0,bO _,rfl,Hd H.b⟩
 case round=>
  obtain⟨k,v,rfl,f⟩:=hrel;by_cases z:k<n
  ·obtain⟨x,g⟩:=dW l k oE;obtain⟨b,o,u,rfl,r,j⟩:=(H.a.keep (H.d k wr f.out)).get g;obtain⟨rfl,h⟩:=r;have h0:wr.cell? ⟨b,o+k,none⟩=some (.int .i64 x):=by have:=j.2 0 _ rfl;rwa [show Rep.sz Int=1 from rfl,ij]at this
   have t:=Hd (H.x k x wr g h f.out);clear g j h;gi_wp2_with (refine Cl gf t.out ?_;rintro e J ⟨rfl,p⟩;have q:=Hd p;clear p)
   exact⟨⟨k+1,oE,by go_num,q⟩,by simp[intOf];omega⟩
  ·have e:k=n:=oE;subst e;gi_wp2;go_ret;exact⟨rfl,f.out⟩
def rC(c:bT):Prop:=0<=c.2.1/\c.2.1<c.2.2.1/\c.2.2.1<=1000/\1<=c.2.2.2.1/\(c.2.2.1-c.2.1).tmod c.2.2.2.1=0/\1<=c.2.2.2.2.1/\c.2.2.2.2.1<=3/\0<=c.2.2.2.2.2.1/\(c.2.2.2.2.2.1=0\/c.2.2.2.2.1=2)
def mQ(x:bW):Prop:=0<=x.2.1/\x.2.1<=1048576/\1<=x.2.2/\x.2.2<=100
def sZ(k:bK):Prop:=k.1=1\/k.1=2\/k.1=5\/((k.1=3\/k.1=4\/k.1=6)/\k.2.2=0/\k.2.1.toList= [])
def pW:Int->List Int->Prop
 |_, []=>True
 |a,n::l=>0<=n/\n<=a/\pW n l
theorem Rx(x:bT)(h:rC x)(w:World):CB 205 #[.agg #[.string x.1,.int .i64 x.2.1,.int .i64 x.2.2.1,.int .i64 x.2.2.2.1,.int .i64 x.2.2.2.2.1,.int .i64 x.2.2.2.2.2.1,.bool x.2.2.2.2.2.2]] (.bool true) w:=by
 obtain⟨s,lo,g,q,p,r,rv⟩:=x;simp only[rC]at h;obtain⟨y,z,B,D,K,t,v,E,o⟩:=h;refine wid ?_;obtain⟨W1,F,F1⟩:=dR ((Fr.nil w).a w [.string s,.int .i64 lo,.int .i64 g,.int .i64 q,.int .i64 p,.int .i64 r,.bool rv] 59);refine op1 F1 ?_;intros;have HF:=Hd F1;have i:=Hd2 t v;have H:¬lo<0:=oE;have I:¬g<=lo:=oE;have J:¬1000<g:=oE;have L:¬q<1:=oE;have n5:¬q=0:=oE;have N:IntKind.i64.wrap (g-lo)=g-lo:=by rw[bR];omega
 clear F1 y z B D t v;have G:¬r<0:=oE;by_cases S:r=0
 ·subst S;clear o;refine ent func205 rfl ntmps205 ?_
  gi_wp2_with (first
   |(refine Cl 209 (dM p 1 3 W1) ?_;rintro e C ⟨rfl,d⟩;rw[cw i.a,cw i.u];have j:=Hd (HF.out.go d);have f:=j.out;refine op1 f ?_;intros;clear d f)
   |(refine⟨bq,?_⟩))
  go_ret;exact⟨rfl,j.out.bl⟩
 obtain rfl:p=2:=o.resolve_left S;clear o;refine ent func205 rfl ntmps205 ?_
 gi_wp2_with (first
  |(refine Cl 209 (dM 2 1 3 W1) ?_;rintro e C ⟨rfl,d⟩;rw[cw i.a,cw i.u];have j:=Hd (HF.out.go d);have f:=j.out;refine op1 f ?_;intros;clear d f)
  |(refine⟨bq,?_⟩))
 go_ret;exact⟨rfl,j.out.bl⟩
theorem Ry(x:bW)(h:mQ x)(w:World):CB 207 #[.agg #[.string x.1,.int .i64 x.2.1,.int .i64 x.2.2]] (.bool true) w:=by
 obtain⟨s,v,m⟩:=x;simp only[mQ]at h;refine wid ?_;obtain⟨W1,y,F1⟩:=dR ((Fr.nil w).a w [.string s,.int .i64 v,.int .i64 m] 156);refine op1 F1 ?_;intros;have HF:=Hd F1;have f:=Hd2 h.1 h.2.1;have d:=Hd2 h.2.2.1 h.2.2.2;clear F1 h;refine ent func207 rfl ntmps207 ?_
 gi_wp2_with (first
  |(have g:=j.out;clear g;refine Cl 209 (dM m 1 100 _) ?_;rintro e J ⟨rfl,p⟩;rw[cw d.a,cw d.u];have F3:=Hd (j.out.go p);clear p)
  |(refine Cl 209 (dM v 0 1048576 W1) ?_;rintro e q ⟨rfl,i⟩;rw[cw f.a,cw f.u];have j:=Hd (HF.out.go i);have o:=j.out;refine op1 o ?_;intros;clear i o)
  |fail)
 go_ret;exact⟨rfl,F3.out.bl⟩
theorem Vg(k:bK)(h:sZ k)(w:World):CB 212 #[.agg #[.int .i64 k.1,.string k.2.1,.int .i64 k.2.2]] (.bool true) w:=by
 obtain⟨d,s,n⟩:=k;simp only[sZ]at h;refine wid ?_;rcases h with rfl|rfl|rfl|⟨rfl|rfl|rfl,rfl,hs⟩
 all_goals
  refine ent func212 rfl ntmps212 ?_;gi_wp2;go_ret;exact⟨rfl,by exact bel⟩
theorem N8{a n:Int}(hv:aZ w b (.int .i64 a))(h0:0<=n)(hn:n<=a):Calls prog 252 #[.int .i64 n,.pointer (some ⟨b,0,none⟩)] w fun e w'=>e=.returned (.bool true)/\KB b w w'/\aZ w' b (.int .i64 n):=by
 refine wid ?_;have i:=hv.1;have f0:=hv.2;have H:=fB hv h0 hn;clear hv h0 hn;refine ent func252 rfl ntmps252 ?_
 gi_wp2_with (first
  |(refine Cl 209 (dM n 0 a w) ?_;rintro e h ⟨rfl,f⟩;rw[cw H.b,cw H.v];have d:=Hd2 (H.a.block (f.block _ H.a.lt)) f;have j:=d.out.1.1;have f2:=d.out.1.2;clear f)
  |fail)
 go_ret;have g:KB b w h:=⟨a_ d.u _,d.u.mono (cX H.a.lt)⟩;exact⟨rfl,g.trans (KB.put d.a),d.a.put⟩
theorem GU{l:List Int}(hx:Sl Int w M A n c l)(hf:pW 1099511627776 l):CB 208 #[.slice A n c] (.bool true) w:=by
 refine wid ?_;obtain⟨W1,y,F1⟩:=dR ((Fr.nil w).a w [.int .i64 1099511627776] 3);have i:∀k x a,l[k]?=some x->pW a (l.drop k)->0<=x/\x<=a/\pW x (l.drop (k+1)):=fun k x a g h=>by rw[cT (bj.1 g).1,(bj.1 g).2]at h;exact h
 have H:=Hd (Yf (gf:=252) (caps:=#[.pointer (some ⟨w,0,none⟩)]) (w:=W1) (M:= [w.heap.size])
  (fun k W=>Keeps [w] W1 W/\Below w w W/\∃a,aZ W w.heap.size (.int .i64 a)/\pW a (l.drop k)) (eK (P:=prog) func252 oF rfl)
  (((hx.less (M':= []) pf).more (b:=w) pc).go F1.bl) ⟨cF _ _,F1.bl,_,⟨F1.aQ 0 0,F1.zN 0 0⟩,by simpa using hf⟩
  (fun k W W' h hb=>⟨h.1.trans (a_ hb _),h.2.1.trans (hb.mono h.2.1.size),by
    obtain⟨a,f,d⟩:=h.2.2;exact⟨a,f.block (hb.block _ f.lt),d⟩⟩) (fun k W h=>h.1) (fun k x W g p h=>by
    obtain⟨f,d,a,r,D⟩:=h;obtain⟨E,j,o⟩:=i k x a g D;refine(N8 r E j).mono ?_;rintro e w' ⟨rfl,kb,v⟩;exact⟨rfl,f.trans kb.k,d.trans kb.bl,x,v,o⟩))
 have HF:=Hd F1;clear hx hf i F1;refine ent func208 rfl ntmps208 ?_
 gi_wp2_with (first
  |(refine Cl 251 H.out ?_;rintro e q ⟨rfl,d⟩;have HB:=Hd d.2.1;clear d)
  |fail)
 go_ret;exact⟨rfl,HB.out⟩
def pX(y:aU):Prop:=∃nu re,qZ vT y.kind=some (u_ (y.l.length:Nat) nu re)/\(re=false->y.name.toList= [])/\(nu=true->0<=y.n/\y.n<=1099511627776/\1<=y.d/\y.d<=1099511627776)/\(nu=false->y.d=0/\(re=false->y.n=0))
theorem kH.go{w':World}(h:kH w M x cs)(hb:Below w w w'):kH w' M x cs:=h.keep (a_ hb M)
theorem GX{v:Array Value}(h:v∈(valsE w x cs).map vS):v.size=1:=by obtain⟨c,-,rfl⟩:=ev.1 h;rfl
structure XJ(w W:World)(b vb n:Nat):Prop where
 bl:Below w w W
 r:aZ W (w.heap.size+1) (.bool false)
 v:aZ W vb (.map (some b))
 mv:MV Jb W b n (qZ vT)
theorem XJ.Jc{vb B:Nat}(hB:w.heap.size<=B)(hb:b<B):jC B (fun W=>XJ w W b vb n):=by intro W W' d h O a;refine⟨kY (B:=B) (w:=w) pc hB _ _ _ h.bl O a,jV B _ _ _ _ _ h.r O a,jV B _ _ _ _ _ h.v O a,h.mv.block (O.block b h.mv.lt (fun e=>?_))⟩;have:=(a b e.symm).1;omega
theorem XJ.go{w W W':World}{b vb n:Nat}(h:XJ w W b vb n)(k:Below W W W'):XJ w W' b vb n:=⟨h.bl.trans (k.mono h.bl.size),h.r.block (k.block _ h.r.lt),h.v.block (k.block _ h.v.lt),h.mv.go k⟩
theorem Cr{l:Nat}{args:Array Value}{Q:Ending->World->Prop}(f:FuncId)(h:Calls P f args w R)(k:∀e w',R e w'->Q e w'):Fence.wide.fn f/\CallsIn (Fence.wide.inRound l) n P f args w Q:=⟨bq,((om.2 h).inRound l).mono k⟩
theorem vU(B b:Nat)(cs:List Value):jC B (fun W=>∀i u,cs[i]?=some u->W.cell? ⟨b,i,none⟩=some u):=fun W W' row h hg hr i u hu=>nO B _ _ W W' row (h i u hu) hg hr
theorem aaD(h:Below W W W')(hs:s<=W.heap.size)(M:List Nat):bn s M W W':=(a_ h M).to hs
theorem Rz{N:List Nat}(hx:kH w N x [.int .i64 x.kind,.string x.name,.int .i64 x.n,.int .i64 x.d,.slice A m c])(hok:∀y,y∈iZ x->pX y):
 CB 216 #[.agg #[.int .i64 x.kind,.string x.name,.int .i64 x.n,.int .i64 x.d,.slice A m c]] (.bool true) w:=by
 refine wid ?_;obtain⟨W1,aw,F1⟩:=dR (((Fr.nil w).a w [.int .i64 x.kind,.string x.name,.int .i64 x.n,.int .i64 x.d,.slice A m c] 66).a (w+1) [.bool false] 4);have HF:=Hd2 F1 ((hx.less (M':= []) pf).keep (a_ F1.bl _));have Ko:=Hd hok;refine op1 F1 ?_;intros;clear F1 hx hok;refine sH func216 rfl ntmps216 ?_
 gi_wp2_with (first
  |(refine Cl 164 (Dh x A m c _) ?_;rintro e E ⟨rfl,al⟩;have an:=Hd al;clear al)
  |(refine Cl 253 (N7 W1) ?_;rintro e C ⟨n,rfl,mv,S⟩;obtain⟨o,ax,X,F3⟩:=fP (w:=C) ((HF.a.go S).a C [.map (some W1.heap.size)] 284);have HM:=fB (⟨F3.bl,⟨F3.aQ 1 0,F3.zN 1 0⟩,⟨F3.aQ 2 0,F3.zN 2 0⟩,mv.go X⟩:XJ w o W1.heap.size C.heap.size n) ((HF.u.go S).go X) (show W1.heap.size<o.heap.size from cf mv.lt X.size);refine op1 F3 ?_;intros;clear mv S)
  |fail)
 have hw:=an.out;have hb4:Below o o E:=by rw[<-hw];exact bel
 have F4:Fr o E [(o, [.int .i64 x.kind,.string x.name,.int .i64 x.n,.int .i64 x.d,.slice A m c])]:=by rw[<-hw];exact(Fr.nil o).a o.heap.size _ _
 have G:=HM.a.go hb4;have ag:W1.heap.size<E.heap.size:=cf HM.v hb4.size;have am:=HM.b.go hb4;refine m_ (M:= []) (w0:=E) rfl rfl trivial (eK func218 oF rfl) (xR am (F4.nth 0) oO pf) (cF _ _) pf (fun v hv=>GX hv) (fun au W=>XJ w W W1.heap.size C.heap.size n) (fun _ _=>False) (fun _=>XJ.Jc G.bl.size ag) (fun _=>kX _ _) G ?round ?done ?stop;case stop=>rintro D j W hD hf;exact hf.elim
 case round=>
  rintro l s v au W L K az ai aA ay B;obtain⟨aB,L⟩:=L;obtain⟨cs,ad,rfl⟩:=ev.1 (show v∈(valsE E x [.int .i64 x.kind,.string x.name,.int .i64 x.n,.int .i64 x.d,.slice A m c]).map vS by rw[L];simp);obtain⟨y,hy,Ve⟩:=KD x am ad;obtain⟨D,m2,d2,rfl,ap,ak⟩:=kH.sl Ve;obtain⟨O,V,aj,q1,q2,T⟩:=Ko.out y hy;obtain⟨V1,av,H,Y⟩:=fP (w:=W) ((Fr.nil W).a W [.int .i64 y.kind,.string y.name,.int .i64 y.n,.int .i64 y.d,.slice D m2 d2] 66);have ab:=B.go H;have aq:=ak.len;gi_wp2;refine⟨aaD H ai _,fun U=>XJ w U W1.heap.size C.heap.size n/\∀i u, [Value.int .i64 y.kind,.string y.name,.int .i64 y.n,.int .i64 y.d,.slice D m2 d2][i]?=some u->U.cell? ⟨W,i,none⟩=some u,(XJ.Jc G.bl.size ag).and (vU _ _ _),⟨ab,Y.nth 0⟩,?_⟩;rintro U ar ah ⟨I,f⟩;have Vh:s<=U.heap.size:=by rw[ah];exact cD ai H.size
  obtain⟨t,ao,q,z⟩:=fP (w:=U) ((Fr.nil U).a U [.int .i64 (y.l.length:Nat),.bool O,.bool V] 287);have u0:U.cell? ⟨W,0,none⟩=_:=f 0 _ rfl;have x0:t.cell? ⟨W,0,none⟩=_:=(q.cell (p:=⟨W,0,none⟩) (bu U _ (f 0 _ rfl))).trans (f 0 _ rfl);have x1:t.cell? ⟨W,1,none⟩=_:=(q.cell (p:=⟨W,1,none⟩) (bu U _ (f 1 _ rfl))).trans (f 1 _ rfl);have x2:t.cell? ⟨W,2,none⟩=_:=(q.cell (p:=⟨W,2,none⟩) (bu U _ (f 2 _ rfl))).trans (f 2 _ rfl);have x3:t.cell? ⟨W,3,none⟩=_:=(q.cell (p:=⟨W,3,none⟩) (bu U _ (f 3 _ rfl))).trans (f 3 _ rfl);have x4:t.cell? ⟨W,4,none⟩=_:=(q.cell (p:=⟨W,4,none⟩) (bu U _ (f 4 _ rfl))).trans (f 4 _ rfl);have uv:=I.v.1;have K:=I.mv.look_ok underlying284 (NZ U) oO ap.1;rw[aj]at K;simp only[eT,Option.isSome_some]at K;rw[aq]at K z ao;have F:=fB (I.go q) q Vh;have HG:=Hd z;have p1:=aN (z.aQ 0 1);have p2:=aN (z.aQ 0 2);have w1:=fun h:O=false=>(T h).1;have w2:=fun(h:O=false) (h':V=false)=>(T h).2 h';refine op1 z ?_;intros;clear L ad hy Ve ak aj B ab I f H q Y z ar ah Vh T;cases O<;>cases V
  all_goals
   try have w3:=w1 rfl
   try have w4:=w2 rfl rfl
   try have q4:=q1 rfl
   try have Z:=Hd (q2 rfl)
   clear w1 w2 q1 q2
  ·gi_wp2;exact⟨aaD F.b F.v _,F.a⟩
  ·gi_wp2;exact⟨aaD F.b F.v _,F.a⟩
  all_goals
   gi_wp2_with (first
    |(have g:=Q.out;clear g;refine Cr 209 (dM y.d 1 1099511627776 U6) ?_;rintro e U7 ⟨rfl,ac⟩;rw[cw Z.c,cw Z.w];have aa:=Hd (Q.out.trans (ac.mono Q.out.size));clear ac)
    |(refine Cr 209 (dM y.n 0 1099511627776 t) ?_;rintro e U6 ⟨rfl,J⟩;rw[cw Z.a,cw Z.b];have Q:=Hd J;have af:=HG.out.go J;have z3:=(J.cell (p:=⟨W,3,none⟩) (bu t _ x3)).trans x3;refine op1 af ?_;intros;clear J af)
    |fail)
   exact⟨aaD (F.b.trans (aa.out.mono F.b.size)) F.v _,F.a.go aa.out⟩
 case done=>rintro D W hD B ae;have r1:=B.r.1;have r2:=B.r.2;gi_wp2;refine⟨oO,.inl ⟨_,_,rfl,jf (fA ae),?_⟩⟩;exact⟨.bool true,by simp[results,go_sem,qg (cZ r1) (fA ae)],rfl,nV (B.bl.setCell (p:=⟨w+1,0,none⟩) oO _) (by have:=G.bl.size;omega) pc⟩
end
