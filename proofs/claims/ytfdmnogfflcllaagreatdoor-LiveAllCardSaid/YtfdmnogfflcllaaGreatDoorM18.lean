/- Lemmas -/
import Derived.Laws.EntriesVeiled
import Derived.Test.YtfdmnogfflcllaaGreatDoorM16
set_option linter.all false
set_option maxRecDepth 100000
set_option maxHeartbeats 0
namespace Go.Proofs.YtfdmnogfflcllaaGreatDoor
open Go.Proofs.Tryz Go.RowKit Go.Shelf
theorem BN{p:Prop}(h:p:=by
 refine op1 N ?_;intros;have v:=Hd (H.x k x t [x.1,x.2.1,x.2.2] q (jf p (bq g _)) (H.c k wr t j.out g));clear q f p N g;gi_wp2_with (refine Cl gf v.out ?_;rintro e L ⟨rfl,u⟩;have y:=Hd u;clear u)
 exact⟨⟨k+1,pj,by go_num,y⟩,by simp[intOf];omega⟩):p:=h
theorem EO{p:Prop}(h:p:=by have e:k=n:=pj;subst e;gi_wp2;go_ret;exact⟨rfl,j.out⟩):p:=h
variable {w w0 W0 W W':World}{M:List Nat}{A B:Option Addr}{n c k m d b yv wv s gf:Nat}{l l':List bK}{x:aU}{cs:List Value}{P:Program}{R:Ending→World→Prop}{caps:Array Value}{r:aS}
theorem Sl.xQ{x:bK}(h:Sl bK w M A n c l)(hk:l[k]?=some x):∃b o,A=some ⟨b,o,none⟩/\(w.cell? ⟨b,o+k*3,none⟩=some (.int .i64 x.1)/\w.cell? ⟨b,o+k*3+1,none⟩=some (.string x.2.1)/\w.cell? ⟨b,o+k*3+2,none⟩=some (.int .i64 x.2.2)):=by obtain⟨b,o,f,rfl,e,a⟩:=h.get hk;obtain⟨rfl,-⟩:=rd_key e;exact⟨b,o,rfl,a.2 0 _ rfl,a.2 1 _ rfl,a.2 2 _ rfl⟩
theorem Ro(a b:ByteArray):(a.toList==b.toList)=decide (a=b):=by
 by_cases h:a=b;·subst h;simp
 rw[cE h,cU];exact fun e=>h (oF (Array.ext' (by rwa [Lib.toList_data,Lib.toList_data]at e)))
theorem Qd(x y:bK)(w:World):(binOp .neq 113 (.agg #[x.1,x.2.1,x.2.2]) (.agg #[y.1,y.2.1,y.2.2])).run prog w=.ok (.bool (!decide (x=y))) w:=by
 have e:decide (x=y)=(decide (x.1=y.1)&&(decide (x.2.1=y.2.1)&&decide (x.2.2=y.2.2))):=by obtain⟨a,b,c⟩:=x;obtain⟨f,g,i⟩:=y;simp[fc]
 rw[e,<-Ro];by_cases j:x.1=y.1
 ·by_cases o:x.2.1.toList=y.2.1.toList
  ·by_cases p:x.2.2=y.2.2;·go_simp
   go_simp
  go_simp
 go_simp
theorem U5{x y:bK}(hx:l[k]?=some x)(hy:l'[k]?=some y):decide (l.drop k=l'.drop k)=(decide (x=y)&&decide (l.drop (k+1)=l'.drop (k+1))):=by obtain⟨a,e⟩:=bu.1 hx;obtain⟨f,F⟩:=bu.1 hy;have H:=cL a;have O:=cL f;rw[H,O,e,F];simp only[mU,Bool.decide_and]
theorem Ya{M':List Nat}(hx:Sl bK w M A n c l)(hy:Sl bK w M' B m d l'):
 CB 200 #[.slice A n c,.slice B m d] (.bool (decide (l=l'))) w:=by
 refine wid ?_;have j:=hx.len;have o:=hy.len;have X:=hx.small;by_cases K:n=m
 ·subst K;have H:=Hd2 hx hy;have HL:=Hd2 j o;have F:=Hd (bL w w);have G:=Hd (show decide (l.drop 0=l'.drop 0)=decide (l=l') by simp);clear hx hy j o;refine ent func200 ntmps200 ?_;gi_wp2;gi_loopw[13] (fun i wr=>∃k:Nat,k<=n/\i=k/\Hid (Below w w wr)/\Hid (decide (l.drop k=l'.drop k)=decide (l=l'))) (fun i _=>n-(intOf i).toNat);case atStart=>exact⟨0,cf _,rfl,F,G⟩
  case round=>
   obtain⟨k,I,rfl,f,g⟩:=hrel;by_cases p:k<n
   ·obtain⟨x,v⟩:=dW l k (by rw[HL.a];exact p);obtain⟨y,z⟩:=dW l' k (by rw[HL.u];exact p);have D:=Hd (U5 v z);obtain⟨b1,Y,rfl,N,O,Q⟩:=(H.out.1.go f.out).xQ v;obtain⟨b2,Z,rfl,S,T,V⟩:=(H.out.2.go f.out).xQ z;obtain⟨q,t⟩:=aC (decide (x=y));have L:=Qd x y;rw[t]at L;have C:=Hd t;have v0:=ah N;have v1:=ah O;have v2:=ah Q;have v3:=ah S;have v4:=ah T;have v5:=ah V;clear v z t;gi_wp2;refine ak [] (List.range 9) pk pk ?_;refine eH ?_;refine aK ?_;refine lit ?_;cases q;·gi_wp2;go_ret;exact⟨by rw[<-g.out,D.out,C.out];rfl,f.out.drew⟩
    gi_wp2;exact⟨⟨k+1,pj,by go_num,f.out.drew,Hd (by rw[<-g.out,D.out,C.out,fm])⟩,by simp[intOf];omega⟩
   ·have J:k=n:=pj;clear I p;subst J;have E:=Hd (show decide (l=l')=true by
     rw[<-g.out,cB (by rw[HL.a];exact bj _),cB (by rw[HL.u];exact bj _)];rfl)
    gi_wp2;go_ret;exact⟨by rw[E.out];rfl,f.out⟩
 ·have E:=Hd (show decide (l=l')=false from cE fun e=>by subst e;omega);clear hx hy j o;refine ent func200 ntmps200 ?_;gi_wp2;go_ret;exact⟨by rw[E.out];rfl,bL _ _⟩
section
attribute [local go_sem] cX
def Df(w:World)(A:Option Addr)(k:Nat):List Value:=(List.range 5).map fun j=>(w.cell? ⟨(A.getD ⟨0,0,none⟩).block,(A.getD ⟨0,0,none⟩).off+k*5+j,none⟩).getD undef
def XI:List Value->Option Addr
 | [_,_,_,_,.slice A _ _]=>A
 |_=>none
mutual
def valsE(w:World):aU->List Value->List (List Value)
 | .mk _ _ _ _ l,cs=>cs::oZ w l (XI cs) 0
def oZ(w:World):List aU->Option Addr->Nat->List (List Value)
 | [],_,_=> []
 |x::l,A,k=>valsE w x (Df w A k)++oZ w l A (k+1)
end
mutual
def iZ:aU->List aU
 | .mk k s n d l=>.mk k s n d l::Ah l
def Ah:List aU->List aU
 | []=> []
 |x::l=>iZ x++Ah l
end
theorem KC(w:World)(x:aU)(cs:List Value):valsE w x cs=cs::oZ w x.l (XI cs) 0:=by cases x;rw[valsE];rfl
theorem lW(x:aU):iZ x=x::Ah x.l:=by cases x;rw[iZ];rfl
theorem vP(w:World)(A:Option Addr){l:List aU}(h:l[k]?=some x):oZ w (l.drop k) A k=valsE w x (Df w A k)++oZ w (l.drop (k+1)) A (k+1):=by rw[cL (bu.1 h).1,(bu.1 h).2,oZ]
theorem qF{y x:aU}:∀{l:List aU},x∈l->y∈iZ x->y∈Ah l
 |z::l,hx,hy=>by
  rw[Ah];rcases cD.1 hx with rfl|hx;·exact di _ hy
  exact cP _ (qF hx hy)
theorem Vd{o:Nat}{es:List Value}(h:wR w M b (o+k*5) es)(hl:es.length=5):Df w (some ⟨b,o,none⟩) k=es:=by
 unfold Df;apply jx;·simp[hl]
 intro j e a;have:=h.2 j es[j] (cd a);simp[this]
theorem Qg{y:aU}(h:kH w M x cs)(hk:x.l[k]?=some y):kH w M y (Df w (XI cs) k)/\∃b o,XI cs=some ⟨b,o,none⟩/\wR w M b (o+k*5) (Df w (XI cs) k):=by
 cases h with
 | @mk kind n d name l A m c es hi hl hc hr hs hb hx=>
   rcases hb with g|⟨b,o,rfl,g⟩;·rw[show(aU.mk kind name n d l).l=l from rfl,g]at hk;simp at hk
   ·have f:=(bu.1 hk).1;have a:=hx k y hk;have e:Df w (XI [kind,name,n,d,.slice (some ⟨b,o,none⟩) m c]) k=es k:=Vd (g k f) a.len;rw[e];exact⟨a,b,o,rfl,g k f⟩
theorem KD:∀(x:aU) {w:World}{M:List Nat}{cs c:List Value},kH w M x cs->c∈valsE w x cs->∃y,y∈iZ x/\kH w M y c:=by
 intro x
 induction x using iY with
 |_ x ih=>
 intro w M cs c h K;rw[KC]at K;rw[lW];rcases cD.1 K with rfl|K;·exact⟨x,cw,h⟩
 have p:∀(j k:Nat),x.l.length-k=j->c∈oZ w (x.l.drop k) (XI cs) k->∃y,y∈Ah x.l/\kH w M y c:=by
  intro j
  induction j with
  |zero=>intro k o a;rw[cB pj,oZ]at a;cases a
  |succ j ihj=>
   intro k o a;have g:k<x.l.length:=pj;have i:x.l[k]?=some x.l[k]:=cd g;rw[vP w (XI cs) i]at a;rcases cK.1 a with a|a;·obtain⟨y,e,f⟩:=ih _ (fN g) (Qg h i).1 a;exact⟨y,qF (fN g) e,f⟩
   ·exact ihj (k+1) pj a
 obtain⟨y,e,f⟩:=p _ 0 rfl (by rwa [fi]);exact⟨y,bE _ e,f⟩
theorem GR(w:World)(A:Option Addr)(l:List aU):∀k,k<=l.length->∃p,oZ w l A 0=p++oZ w (l.drop k) A k
 |0,_=>⟨[],po⟩
 |k+1,h=>by obtain⟨p,hp⟩:=GR w A l k pj;rw[vP w A (cd (show k<l.length by omega))]at hp;exact⟨_,by rw[hp,<-dz]⟩
abbrev vS:List Value->Array Value:=fun c=>#[.agg c.toArray]
theorem Ja{m':Nat}{l:Nat}{f:FuncId}{tmps:Array Value}{assign body:Code}(h:RoundIn Wd m P l f tmps assign body w R):RoundIn Wd m' P l f tmps assign body w R:=⟨h.1,fun c cs _=>h.2 c cs (fun d hd=>by cases hd)⟩
structure WkI(w0 W0 W:World)(M:List Nat)(yv wv l:Nat):Prop where
 kt:aq W0.heap.size M W0 W
 k0:Keeps M w0 W0
 hM:∀k,k∈M->k<W0.heap.size
 y0:W0.heap.size<=yv
 v0:W0.heap.size<=wv
 y:W.cell? ⟨yv,0,none⟩=some (.func (.yield l) #[] #[])
 v:W.cell? ⟨wv,0,none⟩=some (.func (.func 219) #[] #[.pointer (some ⟨yv,0,none⟩),.pointer (some ⟨wv,0,none⟩)])
theorem WkI.to{l:Nat}(h:WkI w0 W0 W M yv wv l)(hs:s=W.heap.size)(k:aq s M W W'):WkI w0 W0 W' M yv wv l:=by subst hs;exact⟨h.kt.trans ⟨k.size,fun b hb a=>k.block b (bX hb h.kt.size) a⟩,h.k0,h.hM,h.y0,h.v0,k.IC (bw W _ h.y) (fun e=>by have e:yv∈M:=e;have:=h.hM _ e;have:=h.y0;omega) h.y,k.IC (bw W _ h.v) (fun e=>by have e:wv∈M:=e;have:=h.hM _ e;have:=h.v0;omega) h.v⟩
theorem walk_any{l:Nat}{XS:List (Array Value)}(J:List (Array Value)->World->Prop)(Jx:World->Prop)(Jp:List PanicEntry->World->Prop)(hJ:∀r,jC W0.heap.size (J r))
 (mO:∀s x rest W1,(∃pre,XS=pre++x::rest)->W0.heap.size<=s->s<=W1.heap.size->aq W0.heap.size M W0 W1->J (x::rest) W1->YieldAt Wd 8 prog l x W1 fun e W2=>(e=.returned true/\J rest W2/\aq s M W1 W2)\/(e=.returned false/\Jx W2)\/(∃ch,e=.panicked ch/\Jp ch W2)):
 ∀(x:aU) {cs:List Value}{rest:List (Array Value)}{W:World},kH w0 M x cs->WkI w0 W0 W M yv wv l->(∃pre,XS=pre++((valsE w0 x cs).map vS++rest))->J ((valsE w0 x cs).map vS++rest) W->Calls prog 219 #[.agg cs.toArray,.pointer (some ⟨yv,0,none⟩),.pointer (some ⟨wv,0,none⟩)] W fun e W'=>
   (e=.returned true/\J rest W'/\aq W.heap.size M W W')\/(e=.returned false/\Jx W')\/(∃ch,e=.panicked ch/\Jp ch W'):=by
 intro x
 induction x using iY with
 |_ x ih=>
 intro cs rest W hr Z L hj;refine pd (n:=9) |>.1 ?_;obtain⟨A,m,c,rfl,-,ac⟩:=kH.sl hr;have ag:=ac.len;have ap:=ac.small;obtain⟨W1,ae⟩:=aC (W.alloc (.cells #[x.kind,x.name,x.n,x.d,.slice A m c] 66));have F1:Fr W W1 [(W, [x.kind,x.name,x.n,x.d,.slice A m c])]:=by rw[<-ae];exact(Fr.nil W).a W.heap.size _ _
 have ab:aq W.heap.size M W W1:=(bq F1.bl M).to pD;have t:=Z.to rfl ab;have aa:J ((valsE w0 x [.int .i64 x.kind,.string x.name,.int .i64 x.n,.int .i64 x.d,.slice A m c]).map vS++rest) W1:=by rw[<-ae];exact(hJ _).alloc _ hj
 rw[KC]at aa L;have ZP:=L;obtain⟨fn,av,am,an,hy,hR⟩:=mO W1.heap.size _ _ W1 ZP t.kt.size pD t.kt aa
 dsimp only[vS,eV]at hy
 have au:=t.y;have ar:=t.v;have al:W.heap.size<W1.heap.size:=F1.mJ 0;have HR:=Hd2 (Ja (m':=8) hR) al;have H:=Zw hr t L ag ab Z.kt.size;have IH:=Hd ih;have HF:=Hd F1;refine op1 F1 ?_;intros;clear hr Z t L ZP hj aa ab hR F1 ih ag ac;refine ent func219 ntmps219 ?_
 gi_wp2_with (first
  |(refine HR.out.1.mono ?_;rintro e W3 (⟨rfl,hJ3,hk3⟩|⟨rfl,hx3⟩|⟨ch,rfl,hp3⟩);all_goals try have c4:=hk3.IC (o:=4) HR.out.2 (fun e=>by have:=H.b.hM _ e;have:=H.y;omega) (HF.out.aQ 0 4))
  |fail)
 rotate_left;·go_ret;exact .inr (.inl ⟨rfl,hx3⟩)
 ·exact⟨rfl,.inr (.inr ⟨ch,rfl,hp3⟩)⟩
 have aj:=Hd2 hJ3 hk3;clear hJ3 hk3;gi_loopw[14] (fun i wr=>∃k:Nat,k<=m/\i=.int .i64 k/\Hid (J ((oZ w0 (x.l.drop k) A k).map vS++rest) wr/\aq W1.heap.size M W1 wr)) (fun i _=>m-(intOf i).toNat);case atStart=>exact⟨0,cf _,rfl,by rw[fi];exact aj⟩
 case round=>
  obtain⟨k,hk,rfl,g⟩:=hrel;by_cases ao:k<m
  ·obtain⟨y,O⟩:=dW x.l k (by have:=H.d;omega);obtain⟨z,b,o,V,ai⟩:=Qg H.out.1 O;have V:A=some ⟨b,o,none⟩:=V;subst V;have E:=H.b.to rfl g.u;have f:=ai.keep (E.k0.Uh E.kt E.k0.size);have N:=vP w0 (some ⟨b,o,none⟩) O;obtain⟨D,I,C,ec,-,ak⟩:=kH.sl z;simp only[show XI [x.kind,x.name,x.n,x.d,.slice (some ⟨b,o,none⟩) m c]=some ⟨b,o,none⟩from rfl]at ec z f;rw[ec]at z f N;obtain⟨K,ad⟩:=aC (wr.alloc (.cells #[y.kind,y.name,y.n,y.d,.slice D I C] 66));have Q:Fr wr K [(wr, [y.kind,y.name,y.n,y.d,.slice D I C])]:=by rw[<-ad];exact(Fr.nil wr).a wr.heap.size _ _
   have F:aq wr.heap.size M wr K:=(bq Q.bl M).to pD;have X:=E.to rfl F;have af:J ((valsE w0 y [.int .i64 y.kind,.string y.name,.int .i64 y.n,.int .i64 y.d,.slice D I C]).map vS++((oZ w0 (x.l.drop (k+1)) (some ⟨b,o,none⟩) (k+1)).map vS++rest)) K:=by have:=g.a;rw[N,ed,dz]at this;rw[<-ad];exact(hJ _).alloc _ this
   have ah:∃pre,XS=pre++((valsE w0 y [.int .i64 y.kind,.string y.name,.int .i64 y.n,.int .i64 y.d,.slice D I C]).map vS++((oZ w0 (x.l.drop (k+1)) (some ⟨b,o,none⟩) (k+1)).map vS++rest)):=by obtain⟨pre,hp⟩:=H.c;obtain⟨p,j⟩:=GR w0 (some ⟨b,o,none⟩) x.l k (by have:=H.d;omega);simp only[show XI [.int .i64 x.kind,.string x.name,.int .i64 x.n,.int .i64 x.d,.slice (some ⟨b,o,none⟩) m c]=some ⟨b,o,none⟩from rfl]at hp;rw[j,N]at hp;refine⟨pre++(([[.int .i64 x.kind,.string x.name,.int .i64 x.n,.int .i64 x.d,.slice (some ⟨b,o,none⟩) m c]]:List (List Value))++p).map vS,hp.trans ?_⟩;simp only[eV,ia,ed,dz,d_,df]
   have hc:=IH.out y (bh O) z X ah af;have h0:wr.cell? ⟨b,o+k*5,none⟩=some (.int .i64 y.kind):=f.2 0 _ rfl;have h1:wr.cell? ⟨b,o+k*5+1,none⟩=some (.string y.name):=f.2 1 _ rfl;have h2:wr.cell? ⟨b,o+k*5+2,none⟩=some (.int .i64 y.n):=f.2 2 _ rfl;have h3:wr.cell? ⟨b,o+k*5+3,none⟩=some (.int .i64 y.d):=f.2 3 _ rfl;have h4:wr.cell? ⟨b,o+k*5+4,none⟩=some (.slice D I C):=f.2 4 _ rfl;have w1:=X.v;have S:=fB hc (g.u.trans ⟨F.size,fun q j G=>F.block q (bX j g.u.size) G⟩) (show W1.heap.size<=K.heap.size from cF g.u.size F.size);refine op1 Q ?_;intros;clear hc ah af F X E ai f z N ak Q O
   gi_wp2_with (first
    |(refine Cl 219 S.a ?_;rintro e W4 (⟨rfl,hJ4,hk4⟩|⟨rfl,hx4⟩|⟨ch,rfl,hp4⟩))
    |fail)
   ·exact⟨⟨k+1,pj,by go_num,hJ4,S.b.trans ⟨hk4.size,fun q j G=>hk4.block q (bX j S.v) G⟩⟩,by simp[intOf];omega⟩
   ·go_ret;exact .inr (.inl ⟨rfl,hx4⟩)
   exact⟨rfl,.inr (.inr ⟨ch,rfl,hp4⟩)⟩
  ·have Y:=g.out;rw[cB (by have:=H.d;omega),oZ]at Y;have T:=Hd Y;clear g Y;gi_wp2;go_ret;exact .inl ⟨rfl,T.a,H.e.trans ⟨T.u.size,fun q j G=>T.u.block q (bX j H.e.size) G⟩⟩
theorem xR{b1:Nat}(hx:kH w0 M x cs)(hc:∀i u,cs[i]?=some u->w0.cell? ⟨b1,i,none⟩=some u)(m1:b1∉M)(hM:∀k,k∈M->k<w0.heap.size):
 Yields Wd prog 218 #[.pointer (some ⟨b1,0,none⟩)] w0 M ((valsE w0 x cs).map vS):=by
 intro l J E D W f g N o y;have t:=hx;obtain⟨A,m,c,rfl,-,-⟩:=kH.sl t;obtain⟨W1,q⟩:=aC ((W.alloc (.cells #[.func (.yield l) #[] #[]] 208)).alloc (.cells #[.func (.func 219) #[] #[.pointer (some ⟨W,0,none⟩),.pointer (some ⟨W+1,0,none⟩)]] 208));have F1:Fr W W1 [(W, [.func (.yield l) #[] #[]]),(W+1, [.func (.func 219) #[] #[.pointer (some ⟨W,0,none⟩),.pointer (some ⟨W+1,0,none⟩)]])]:=by rw[<-q];exact((Fr.nil W).a W.heap.size _ _).a (W+1) _ _
 have v:aq W.heap.size M W W1:=(bq F1.bl M).to pD;have j:WkI w0 W W1 M W.heap.size (W.heap.size+1) l:=⟨v,f,fun k F=>bX (hM k F) f.size,bj _,ja _,F1.aQ 0 0,F1.aQ 1 0⟩;have C:J ((valsE w0 x [.int .i64 x.kind,.string x.name,.int .i64 x.n,.int .i64 x.d,.slice A m c]).map vS++ []) W1:=by rw[dx,<-q];exact(g _).alloc _ ((g _).alloc _ o)
 have z:=Hd (walk_any J E D g y x hx j ⟨[],po⟩ C);have H:W1.cell? ⟨b1,0,none⟩=_:=(F1.bl.cell (p:=⟨b1,0,none⟩) (bw W _ (f.cell m1 (hc 0 _ rfl)))).trans (f.cell m1 (hc 0 _ rfl));have I:W1.cell? ⟨b1,1,none⟩=_:=(F1.bl.cell (p:=⟨b1,1,none⟩) (bw W _ (f.cell m1 (hc 1 _ rfl)))).trans (f.cell m1 (hc 1 _ rfl));have O:W1.cell? ⟨b1,2,none⟩=_:=(F1.bl.cell (p:=⟨b1,2,none⟩) (bw W _ (f.cell m1 (hc 2 _ rfl)))).trans (f.cell m1 (hc 2 _ rfl));have K:W1.cell? ⟨b1,3,none⟩=_:=(F1.bl.cell (p:=⟨b1,3,none⟩) (bw W _ (f.cell m1 (hc 3 _ rfl)))).trans (f.cell m1 (hc 3 _ rfl));have L:W1.cell? ⟨b1,4,none⟩=_:=(F1.bl.cell (p:=⟨b1,4,none⟩) (bw W _ (f.cell m1 (hc 4 _ rfl)))).trans (f.cell m1 (hc 4 _ rfl));refine op1 F1 ?_;intros;clear hx t hc f j C y o F1 v;simp only[fp,d_,df];refine ent func218 ntmps218 ?_
 gi_wp2_with (first
  |(refine Cl 219 z.out ?_;rintro e G (⟨rfl,hJ4,hk4⟩|⟨rfl,hx4⟩|⟨ch,rfl,hp4⟩))
  |fail)
 ·go_end0;exact .inl ⟨⟨_,rfl⟩,.inl hJ4⟩
 ·go_end0;exact .inl ⟨⟨_,rfl⟩,.inr hx4⟩
 ·exact⟨rfl,.inr ⟨ch,rfl,hp4⟩⟩
theorem Dh(x:aU)(A:Option Addr)(m c:Nat)(w:World):
 Calls prog 164 #[.agg #[x.kind,x.name,x.n,x.d,.slice A m c]] w fun e w'=>e=.returned (.func (.func 218) #[] #[.pointer (some ⟨w,0,none⟩)])/\w.alloc (.cells #[x.kind,x.name,x.n,x.d,.slice A m c] 66)=w':=by
 refine wid ?_;refine ent func164 ntmps164 ?_;gi_wp2;go_ret;exact⟨rfl,rfl⟩
abbrev u_(p:Int)(n r:Bool):Value:=.agg #[p,n,r]
def vT:List (Int×Value):= [(11,u_ 4 false false),(10,u_ 2 false false),(9,u_ 2 false false),(8,u_ 1 true false),(7,u_ 2 false false),(6,u_ 2 false false),(5,u_ 0 false true),(4,u_ 0 false false),(3,u_ 0 false false),(2,u_ 0 false true),(1,u_ 0 true false)]
abbrev Jb:List Value:= [u_ 0 false false,u_ 0 true false,u_ 0 false true,u_ 2 false false,u_ 1 true false,u_ 4 false false]
theorem Rq(w:World):(Instr.makeMap 284 none).run prog w=.ok (.map (some w.heap.size)) (w.alloc (.map #[] 0)):=by rfl
theorem NZ(w:World):(zeroValue 287).run prog w=.ok (u_ 0 false false) w:=pk
theorem N7(w:World):Calls prog 253 #[] w fun e w'=>∃n,e=.returned (.map (some w.heap.size))/\MV Jb w' w.heap.size n (qZ vT)/\Below w w w':=by
 refine wid ?_;have Q:=Rq;obtain⟨w0,D⟩:=aC (w.alloc (.map #[] 0));have f:MV Jb w0 w.heap.size 0 (fun _=>none):=by rw[<-D];exact MV.new _ w
 have b:Below w w w0:=by rw[<-D];exact bel
 obtain⟨w1,S,g,t1⟩:=f.store (k:=1) underlying284 pA (v:=u_ 0 true false) po pj;replace b:=b.grown t1.grown (cY f.lt) (fun q a=>by cases a;exact bj _);obtain⟨w2,X,j,t2⟩:=g.store (k:=2) underlying284 pA (v:=u_ 0 false true) po pj;replace b:=b.grown t2.grown (cY g.lt) (fun q a=>by cases a;exact bj _);obtain⟨w3,Y,o,t3⟩:=j.store (k:=3) underlying284 pA (v:=u_ 0 false false) po pj;replace b:=b.grown t3.grown (cY j.lt) (fun q a=>by cases a;exact bj _);obtain⟨w4,Z,p,I⟩:=o.store (k:=4) underlying284 pA (v:=u_ 0 false false) po pj;replace b:=b.grown I.grown (cY o.lt) (fun q a=>by cases a;exact bj _);obtain⟨w5,r5,t,J⟩:=p.store (k:=5) underlying284 pA (v:=u_ 0 false true) po pj;replace b:=b.grown J.grown (cY p.lt) (fun q a=>by cases a;exact bj _);obtain⟨w6,r6,u,K⟩:=t.store (k:=6) underlying284 pA (v:=u_ 2 false false) po pj;replace b:=b.grown K.grown (cY t.lt) (fun q a=>by cases a;exact bj _);obtain⟨w7,r7,y,L⟩:=u.store (k:=7) underlying284 pA (v:=u_ 2 false false) po pj;replace b:=b.grown L.grown (cY u.lt) (fun q a=>by cases a;exact bj _);obtain⟨w8,r8,z,N⟩:=y.store (k:=8) underlying284 pA (v:=u_ 1 true false) po pj;replace b:=b.grown N.grown (cY y.lt) (fun q a=>by cases a;exact bj _);obtain⟨w9,r9,C,O⟩:=z.store (k:=9) underlying284 pA (v:=u_ 2 false false) po pj;replace b:=b.grown O.grown (cY z.lt) (fun q a=>by cases a;exact bj _);obtain⟨aa,T,i,F⟩:=C.store (k:=10) underlying284 pA (v:=u_ 2 false false) po pj;replace b:=b.grown F.grown (cY C.lt) (fun q a=>by cases a;exact bj _);obtain⟨ab,V,E,G⟩:=i.store (k:=11) underlying284 pA (v:=u_ 4 false false) po pj;replace b:=b.grown G.grown (cY i.lt) (fun q a=>by cases a;exact bj _);have H:=Hd2 E b;clear f g j o p t u y z C i E b t1 t2 t3 I J K L N O F G;refine ent func253 ntmps253 ?_;gi_wp2;go_ret;exact⟨11,rfl,H.out.1,H.out.2⟩
theorem dM(n low high:Int)(w:World):CB 209 #[n,low,high] (.bool (decide (low<=n)&&decide (n<=high))) w:=by
 refine wid ?_;by_cases a:low<=n;·refine ent func209 ntmps209 ?_;gi_wp2;go_ret;exact⟨by simp[a],bL _ _⟩
 refine ent func209 ntmps209 ?_;gi_wp2;go_ret;have e:¬low<=n:=pj;exact⟨by simp[e],bL _ _⟩
theorem Di{l:List bT}(I:Nat->World->Prop)(eg:∀args w,(callFunc gf args).run prog w=.ok (.enter gf args) w)(hx:Sl bT w M A n c l)(h0:I 0 w)(hm:∀k W W',I k W->Below W W W'->I k W')(hk:∀k W,I k W->Keeps M w W)
 (hf:∀k x W cs,l[k]?=some x->Rep.rd W M x cs->I k W->Calls prog gf (#[.agg cs.toArray]++caps) W fun e w'=>e=.returned (.bool true)/\I (k+1) w'):
 Calls prog 204 #[.slice A n c,.func (.func gf) #[] caps] w fun e w'=>e=.returned true/\I n w':=by
 refine wid ?_;have O:=hx.len;have S:=hx.small;have H:=oK hx h0 hm hk hf;clear hx h0 hm hk hf;refine ent func204 ntmps204 ?_;gi_wp2;gi_loopw[9] (fun i wr=>∃k:Nat,k<=n/\i=k/\Hid (I k wr)) (fun i _=>n-(intOf i).toNat);case atStart=>exact⟨0,cf _,rfl,Hd H.b⟩
 case round=>
  obtain⟨k,L,rfl,j⟩:=hrel;by_cases Q:k<n
  ·obtain⟨x,q⟩:=dW l k pj;obtain⟨b,o,z,rfl,p,f⟩:=(H.out.1.keep (H.d k wr j.out)).get q;obtain⟨rfl,-⟩:=lT p;have h0:wr.cell? ⟨b,o+k*7,none⟩=some (.string x.1):=f.2 0 _ rfl;have C:wr.cell? ⟨b,o+k*7+1,none⟩=some (.int .i64 x.2.1):=f.2 1 _ rfl;have D:wr.cell? ⟨b,o+k*7+2,none⟩=some (.int .i64 x.2.2.1):=f.2 2 _ rfl;have E:wr.cell? ⟨b,o+k*7+3,none⟩=some (.int .i64 x.2.2.2.1):=f.2 3 _ rfl;have F:wr.cell? ⟨b,o+k*7+4,none⟩=some (.int .i64 x.2.2.2.2.1):=f.2 4 _ rfl;have G:wr.cell? ⟨b,o+k*7+5,none⟩=some (.int .i64 x.2.2.2.2.2.1):=f.2 5 _ rfl;have J:wr.cell? ⟨b,o+k*7+6,none⟩=some (.bool x.2.2.2.2.2.2):=f.2 6 _ rfl;obtain⟨t,K,g,N⟩:=fP (w:=wr) ((Fr.nil wr).a wr [x.1,x.2.1,x.2.2.1,x.2.2.2.1,x.2.2.2.2.1,x.2.2.2.2.2.1,x.2.2.2.2.2.2] 59);refine op1 N ?_;intros;have v:=Hd (H.x k x t [x.1,x.2.1,x.2.2.1,x.2.2.2.1,x.2.2.2.2.1,x.2.2.2.2.2.1,x.2.2.2.2.2.2] q (jf p (bq g _)) (H.c k wr t j.out g));clear q f p N g;gi_wp2_with (refine Cl gf v.out ?_;rintro e T ⟨rfl,u⟩;have y:=Hd u;clear u)
   exact⟨⟨k+1,pj,by go_num,y⟩,by simp[intOf];omega⟩
  ·exact EO
theorem Vf{l:List bW}(I:Nat->World->Prop)(eg:∀args w,(callFunc gf args).run prog w=.ok (.enter gf args) w)(hx:Sl bW w M A n c l)(h0:I 0 w)(hm:∀k W W',I k W->Below W W W'->I k W')(hk:∀k W,I k W->Keeps M w W)
 (hf:∀k x W cs,l[k]?=some x->Rep.rd W M x cs->I k W->Calls prog gf (#[.agg cs.toArray]++caps) W fun e w'=>e=.returned (.bool true)/\I (k+1) w'):
 Calls prog 206 #[.slice A n c,.func (.func gf) #[] caps] w fun e w'=>e=.returned true/\I n w':=by
 refine wid ?_;have G:=hx.len;have K:=hx.small;have H:=oK hx h0 hm hk hf;clear hx h0 hm hk hf;refine ent func206 ntmps206 ?_;gi_wp2;gi_loopw[9] (fun i wr=>∃k:Nat,k<=n/\i=k/\Hid (I k wr)) (fun i _=>n-(intOf i).toNat);case atStart=>exact⟨0,cf _,rfl,Hd H.b⟩
 case round=>
  obtain⟨k,F,rfl,j⟩:=hrel;by_cases J:k<n;·obtain⟨x,q⟩:=dW l k pj;obtain⟨b,o,z,rfl,p,f⟩:=(H.out.1.keep (H.d k wr j.out)).get q;obtain⟨rfl,-⟩:=aaI p;have h0:wr.cell? ⟨b,o+k*3,none⟩=some (.string x.1):=f.2 0 _ rfl;have C:wr.cell? ⟨b,o+k*3+1,none⟩=some (.int .i64 x.2.1):=f.2 1 _ rfl;have D:wr.cell? ⟨b,o+k*3+2,none⟩=some (.int .i64 x.2.2):=f.2 2 _ rfl;obtain⟨t,E,g,N⟩:=fP (w:=wr) ((Fr.nil wr).a wr [x.1,x.2.1,x.2.2] 156);exact BN
  ·exact EO
theorem Ye{l:List dA}(I:Nat->World->Prop)(eg:∀args w,(callFunc gf args).run prog w=.ok (.enter gf args) w)(hx:Sl dA w M A n c l)(h0:I 0 w)(hm:∀k W W',I k W->Below W W W'->I k W')(hk:∀k W,I k W->Keeps M w W)
 (hf:∀k x W cs,l[k]?=some x->Rep.rd W M x cs->I k W->Calls prog gf (#[.agg cs.toArray]++caps) W fun e w'=>e=.returned (.bool true)/\I (k+1) w'):
 Calls prog 210 #[.slice A n c,.func (.func gf) #[] caps] w fun e w'=>e=.returned true/\I n w':=by
 refine wid ?_;have F:=hx.len;have J:=hx.small;have H:=oK hx h0 hm hk hf;clear hx h0 hm hk hf;refine ent func210 ntmps210 ?_;gi_wp2;gi_loopw[9] (fun i wr=>∃k:Nat,k<=n/\i=k/\Hid (I k wr)) (fun i _=>n-(intOf i).toNat);case atStart=>exact⟨0,cf _,rfl,Hd H.b⟩
 case round=>
  obtain⟨k,E,rfl,g⟩:=hrel;by_cases G:k<n
  ·obtain⟨x,q⟩:=dW l k pj;obtain⟨b,o,z,rfl,j,p⟩:=(H.out.1.keep (H.d k wr g.out)).get q;obtain⟨B,m,d,rfl,-⟩:=vJ j;have h0:wr.cell? ⟨b,o+k*2,none⟩=some (.string x.1):=p.2 0 _ rfl;have C:wr.cell? ⟨b,o+k*2+1,none⟩=some (.slice B m d):=p.2 1 _ rfl;obtain⟨t,D,f,N⟩:=fP (w:=wr) ((Fr.nil wr).a wr [x.1,.slice B m d] 142);refine op1 N ?_;intros;have v:=Hd (H.x k x t [x.1,.slice B m d] q (jf j (bq f _)) (H.c k wr t g.out f));clear q p j N f;gi_wp2_with (refine Cl gf v.out ?_;rintro e K ⟨rfl,u⟩;have y:=Hd u;clear u)
   exact⟨⟨k+1,pj,by go_num,y⟩,by simp[intOf];omega⟩
  ·have e:k=n:=pj;subst e;gi_wp2;go_ret;exact⟨rfl,g.out⟩
theorem Ru{l:List aJ}(I:Nat->World->Prop)(eg:∀args w,(callFunc gf args).run prog w=.ok (.enter gf args) w)(hx:Sl aJ w M A n c l)(h0:I 0 w)(hm:∀k W W',I k W->Below W W W'->I k W')(hk:∀k W,I k W->Keeps M w W)
 (hf:∀k x W cs,l[k]?=some x->Rep.rd W M x cs->I k W->Calls prog gf (#[.agg cs.toArray]++caps) W fun e w'=>e=.returned (.bool true)/\I (k+1) w'):
 Calls prog 213 #[.slice A n c,.func (.func gf) #[] caps] w fun e w'=>e=.returned true/\I n w':=by
 refine wid ?_;have Y:=hx.len;have aa:=hx.small;have H:=oK hx h0 hm hk hf;clear hx h0 hm hk hf;refine ent func213 ntmps213 ?_;gi_wp2;gi_loopw[9] (fun i wr=>∃k:Nat,k<=n/\i=k/\Hid (I k wr)) (fun i _=>n-(intOf i).toNat);case atStart=>exact⟨0,cf _,rfl,Hd H.b⟩
 case round=>
  obtain⟨k,X,rfl,j⟩:=hrel;by_cases Z:k<n
  ·obtain⟨x,q⟩:=dW l k pj;obtain⟨b,o,z,rfl,p,f⟩:=(H.out.1.keep (H.d k wr j.out)).get q;obtain⟨B,m,d,rfl,-⟩:=jg p;have h0:wr.cell? ⟨b,o+k*13,none⟩=some (.string x.1):=f.2 0 _ rfl;have C:wr.cell? ⟨b,o+k*13+1,none⟩=some (.int .i64 x.2.1):=f.2 1 _ rfl;have G:wr.cell? ⟨b,o+k*13+2,none⟩=some (.int .i64 x.2.2.1):=f.2 2 _ rfl;have J:wr.cell? ⟨b,o+k*13+3,none⟩=some (.int .i64 x.2.2.2.1):=f.2 3 _ rfl;have K:wr.cell? ⟨b,o+k*13+4,none⟩=some (.bool x.2.2.2.2.1):=f.2 4 _ rfl;have L:wr.cell? ⟨b,o+k*13+5,none⟩=some (.bool x.2.2.2.2.2.1):=f.2 5 _ rfl;have O:wr.cell? ⟨b,o+k*13+6,none⟩=some (.int .i64 (au x).kind):=f.2 6 _ rfl;have Q:wr.cell? ⟨b,o+k*13+7,none⟩=some (.string (au x).name):=f.2 7 _ rfl;have S:wr.cell? ⟨b,o+k*13+8,none⟩=some (.int .i64 (au x).n):=f.2 8 _ rfl;have T:wr.cell? ⟨b,o+k*13+9,none⟩=some (.int .i64 (au x).d):=f.2 9 _ rfl;have D:wr.cell? ⟨b,o+k*13+10,none⟩=some (.slice B m d):=f.2 10 _ rfl;have E:wr.cell? ⟨b,o+k*13+11,none⟩=some (.string x.2.2.2.2.2.2.2.1):=f.2 11 _ rfl;have F:wr.cell? ⟨b,o+k*13+12,none⟩=some (.int .i64 x.2.2.2.2.2.2.2.2):=f.2 12 _ rfl;obtain⟨t,V,g,N⟩:=fP (w:=wr) ((Fr.nil wr).a wr [x.1,x.2.1,x.2.2.1,x.2.2.2.1,x.2.2.2.2.1,x.2.2.2.2.2.1,(au x).kind,(au x).name,(au x).n,(au x).d,.slice B m d,x.2.2.2.2.2.2.2.1,x.2.2.2.2.2.2.2.2] 68);refine op1 N ?_;intros;have v:=Hd (H.x k x t [x.1,x.2.1,x.2.2.1,x.2.2.2.1,x.2.2.2.2.1,x.2.2.2.2.2.1,(au x).kind,(au x).name,(au x).n,(au x).d,.slice B m d,x.2.2.2.2.2.2.2.1,x.2.2.2.2.2.2.2.2] q (jf p (bq g _)) (H.c k wr t j.out g));clear q f p N g;gi_wp2_with (refine Cl gf v.out ?_;rintro e w3 ⟨rfl,u⟩;have y:=Hd u;clear u)
   exact⟨⟨k+1,pj,by go_num,y⟩,by simp[intOf];omega⟩
  ·exact EO
theorem Qh(I:Nat->World->Prop)(eg:∀args w,(callFunc gf args).run prog w=.ok (.enter gf args) w)(hx:Sl bK w M A n c l)(h0:I 0 w)(hm:∀k W W',I k W->Below W W W'->I k W')(hk:∀k W,I k W->Keeps M w W)
 (hf:∀k x W cs,l[k]?=some x->Rep.rd W M x cs->I k W->Calls prog gf (#[.agg cs.toArray]++caps) W fun e w'=>e=.returned (.bool true)/\I (k+1) w'):
 Calls prog 165 #[.slice A n c,.func (.func gf) #[] caps] w fun e w'=>e=.returned true/\I n w':=by
 refine wid ?_;have G:=hx.len;have K:=hx.small;have H:=oK hx h0 hm hk hf;clear hx h0 hm hk hf;refine ent func165 ntmps165 ?_;gi_wp2;gi_loopw[9] (fun i wr=>∃k:Nat,k<=n/\i=k/\Hid (I k wr)) (fun i _=>n-(intOf i).toNat);case atStart=>exact⟨0,cf _,rfl,Hd H.b⟩
 case round=>
  obtain⟨k,F,rfl,j⟩:=hrel;by_cases J:k<n;·obtain⟨x,q⟩:=dW l k pj;obtain⟨b,o,z,rfl,p,f⟩:=(H.out.1.keep (H.d k wr j.out)).get q;obtain⟨rfl,-⟩:=rd_key p;have h0:wr.cell? ⟨b,o+k*3,none⟩=some (.int .i64 x.1):=f.2 0 _ rfl;have C:wr.cell? ⟨b,o+k*3+1,none⟩=some (.string x.2.1):=f.2 1 _ rfl;have D:wr.cell? ⟨b,o+k*3+2,none⟩=some (.int .i64 x.2.2):=f.2 2 _ rfl;obtain⟨t,E,g,N⟩:=fP (w:=wr) ((Fr.nil wr).a wr [x.1,x.2.1,x.2.2] 113);exact BN
  ·exact EO
theorem Yf{l:List Int}(I:Nat->World->Prop)(eg:∀args w,(callFunc gf args).run prog w=.ok (.enter gf args) w)(hx:Sl Int w M A n c l)(h0:I 0 w)(hm:∀k W W',I k W->Below W W W'->I k W')(hk:∀k W,I k W->Keeps M w W)
 (hf:∀k x W,l[k]?=some x->i64 x->I k W->Calls prog gf (#[.int .i64 x]++caps) W fun e w'=>e=.returned (.bool true)/\I (k+1) w'):
 Calls prog 251 #[.slice A n c,.func (.func gf) #[] caps] w fun e w'=>e=.returned true/\I n w':=by
 refine wid ?_;have z:=hx.len;have D:=hx.small;have H:=oK hx h0 hm hk hf;clear hx h0 hm hk hf;refine ent func251 ntmps251 ?_;gi_wp2;gi_loopw[9] (fun i wr=>∃k:Nat,k<=n/\i=k/\Hid (I k wr)) (fun i _=>n-(intOf i).toNat);case atStart=>exact⟨0,cf _,rfl,Hd H.b⟩
 case round=>
  obtain⟨k,y,rfl,a⟩:=hrel;by_cases C:k<n
  ·obtain⟨x,f⟩:=dW l k pj;obtain⟨b,o,v,rfl,q,g⟩:=(H.out.1.keep (H.d k wr a.out)).get f;obtain⟨rfl,u⟩:=q;have h0:wr.cell? ⟨b,o+k,none⟩=some (.int .i64 x):=by have:=g.2 0 _ rfl;rwa [show Rep.sz Int=1 from rfl,gP]at this
   have t:=Hd (H.x k x wr f u a.out);clear f g u;gi_wp2_with (refine Cl gf t.out ?_;rintro e J ⟨rfl,j⟩;have p:=Hd j;clear j)
   exact⟨⟨k+1,pj,by go_num,p⟩,by simp[intOf];omega⟩
  ·have e:k=n:=pj;subst e;gi_wp2;go_ret;exact⟨rfl,a.out⟩
def rC(c:bT):Prop:=0<=c.2.1/\c.2.1<c.2.2.1/\c.2.2.1<=1000/\1<=c.2.2.2.1/\(c.2.2.1-c.2.1).tmod c.2.2.2.1=0/\1<=c.2.2.2.2.1/\c.2.2.2.2.1<=3/\0<=c.2.2.2.2.2.1/\(c.2.2.2.2.2.1=0\/c.2.2.2.2.1=2)
def mQ(x:bW):Prop:=0<=x.2.1/\x.2.1<=1048576/\1<=x.2.2/\x.2.2<=100
def sZ(k:bK):Prop:=k.1=1\/k.1=2\/k.1=5\/((k.1=3\/k.1=4\/k.1=6)/\k.2.2=0/\k.2.1.toList= [])
def pW:Int->List Int->Prop
 |_, []=>True
 |a,n::l=>0<=n/\n<=a/\pW n l
theorem Rx(x:bT)(h:rC x)(w:World):CB 205 #[.agg #[x.1,x.2.1,x.2.2.1,x.2.2.2.1,x.2.2.2.2.1,x.2.2.2.2.2.1,x.2.2.2.2.2.2]] true w:=by
 obtain⟨s,lo,j,t,q,v,rv⟩:=x;simp only[rC]at h;obtain⟨C,D,E,F,H,y,z,I,p⟩:=h;refine wid ?_;obtain⟨W1,J,F1⟩:=dR ((Fr.nil w).a w [s,lo,j,t,q,v,rv] 59);refine op1 F1 ?_;intros;have HF:=Hd F1;have o:=Hd2 y z;have L:¬lo<0:=pj;have N:¬j<=lo:=pj;have O:¬1000<j:=pj;have Q:¬t<1:=pj;have n5:¬t=0:=pj;have S:IntKind.i64.wrap (j-lo)=j-lo:=by rw[cA];omega
 clear F1 C D E F y z;have K:¬v<0:=pj;by_cases X:v=0
 ·subst X;clear p;refine ent func205 ntmps205 ?_
  gi_wp2_with (first
   |(refine Cl 209 (dM q 1 3 W1) ?_;rintro e G ⟨rfl,g⟩;rw[cx o.a,cx o.u];have f:=Hd (HF.out.go g);have i:=f.out;refine op1 i ?_;intros;clear g i)
   |(refine⟨bO,?_⟩))
  go_ret;exact⟨rfl,f.out.bl⟩
 obtain rfl:q=2:=p.resolve_left X;clear p;refine ent func205 ntmps205 ?_
 gi_wp2_with (first
  |(refine Cl 209 (dM 2 1 3 W1) ?_;rintro e G ⟨rfl,g⟩;rw[cx o.a,cx o.u];have f:=Hd (HF.out.go g);have i:=f.out;refine op1 i ?_;intros;clear g i)
  |(refine⟨bO,?_⟩))
 go_ret;exact⟨rfl,f.out.bl⟩
theorem Ry(x:bW)(h:mQ x)(w:World):CB 207 #[.agg #[x.1,x.2.1,x.2.2]] true w:=by
 obtain⟨s,v,m⟩:=x;simp only[mQ]at h;refine wid ?_;obtain⟨W1,t,F1⟩:=dR ((Fr.nil w).a w [s,v,m] 156);refine op1 F1 ?_;intros;have HF:=Hd F1;have j:=Hd2 h.1 h.2.1;have i:=Hd2 h.2.2.1 h.2.2.2;clear F1 h;refine ent func207 ntmps207 ?_
 gi_wp2_with (first
  |(have g:=f.out;clear g;refine Cl 209 (dM m 1 100 _) ?_;rintro e J ⟨rfl,q⟩;rw[cx i.a,cx i.u];have F3:=Hd (f.out.go q);clear q)
  |(refine Cl 209 (dM v 0 1048576 W1) ?_;rintro e y ⟨rfl,o⟩;rw[cx j.a,cx j.u];have f:=Hd (HF.out.go o);have p:=f.out;refine op1 p ?_;intros;clear o p)
  |fail)
 go_ret;exact⟨rfl,F3.out.bl⟩
theorem Vg(k:bK)(h:sZ k)(w:World):CB 212 #[.agg #[k.1,k.2.1,k.2.2]] true w:=by
 obtain⟨d,s,n⟩:=k;simp only[sZ]at h;refine wid ?_;rcases h with rfl|rfl|rfl|⟨rfl|rfl|rfl,rfl,hs⟩
 all_goals
  refine ent func212 ntmps212 ?_;gi_wp2;go_ret;exact⟨rfl,by exact bel⟩
theorem N8{a n:Int}(hv:aZ w b a)(h0:0<=n)(hn:n<=a):Calls prog 252 #[n,.pointer (some ⟨b,0,none⟩)] w fun e w'=>e=.returned true/\KB b w w'/\aZ w' b n:=by
 refine wid ?_;have o:=hv.1;have f0:=hv.2;have H:=fB hv h0 hn;clear hv h0 hn;refine ent func252 ntmps252 ?_
 gi_wp2_with (first
  |(refine Cl 209 (dM n 0 a w) ?_;rintro e j ⟨rfl,g⟩;rw[cx H.b,cx H.v];have f:=Hd2 (H.out.1.block (g.block _ H.out.1.lt)) g;have Q:=f.out.1.1;have f2:=f.out.1.2;clear g)
  |fail)
 go_ret;have i:KB b w j:=⟨bq f.u _,f.u.mono (cY H.out.1.lt)⟩;exact⟨rfl,i.trans (KB.put f.a),f.a.put⟩
theorem GU{l:List Int}(hx:Sl Int w M A n c l)(hf:pW 1099511627776 l):CB 208 #[.slice A n c] true w:=by
 refine wid ?_;obtain⟨W1,q,F1⟩:=dR ((Fr.nil w).a w [.int .i64 1099511627776] 3);have j:∀k x a,l[k]?=some x->pW a (l.drop k)->0<=x/\x<=a/\pW x (l.drop (k+1)):=fun k x a i h=>by rw[cL (bu.1 i).1,(bu.1 i).2]at h;exact h
 have H:=Hd (Yf (gf:=252) (caps:=#[.pointer (some ⟨w,0,none⟩)]) (w:=W1) (M:= [w.heap.size])
  (fun k W=>Keeps [w] W1 W/\Below w w W/\∃a:Int,aZ W w.heap.size a/\pW a (l.drop k)) (eR (P:=prog) func252 pk rfl)
  (((hx.less (M':= []) pH).more (b:=w) pD).go F1.bl) ⟨cG _ _,F1.bl,_,⟨F1.aQ 0 0,F1.zN 0 0⟩,by simpa using hf⟩
  (fun k W W' h hb=>⟨h.1.trans (bq hb _),h.2.1.trans (hb.mono h.2.1.size),by
    obtain⟨a,g,f⟩:=h.2.2;exact⟨a,g.block (hb.block _ g.lt),f⟩⟩) (fun k W h=>h.1) (fun k x W i u h=>by
    obtain⟨g,f,a,p,F⟩:=h;obtain⟨D,L,o⟩:=j k x a i F;refine(N8 p D L).mono ?_;rintro e w' ⟨rfl,kb,v⟩;exact⟨rfl,g.trans kb.k,f.trans kb.bl,x,v,o⟩))
 have HF:=Hd F1;clear hx hf j F1;refine ent func208 ntmps208 ?_
 gi_wp2_with (first
  |(refine Cl 251 H.out ?_;rintro e t ⟨rfl,f⟩;have HB:=Hd f.2.1;clear f)
  |fail)
 go_ret;exact⟨rfl,HB.out⟩
def pX(y:aU):Prop:=∃nu re,qZ vT y.kind=some (u_ (y.l.length:Nat) nu re)/\(re=false->y.name.toList= [])/\(nu=true->0<=y.n/\y.n<=1099511627776/\1<=y.d/\y.d<=1099511627776)/\(nu=false->y.d=0/\(re=false->y.n=0))
theorem kH.go{w':World}(h:kH w M x cs)(hb:Below w w w'):kH w' M x cs:=h.keep (bq hb M)
theorem GX{v:Array Value}(h:v∈(valsE w x cs).map vS):v.size=1:=by obtain⟨c,-,rfl⟩:=eE.1 h;rfl
structure XJ(w W:World)(b vb n:Nat):Prop where
 bl:Below w w W
 r:aZ W (w.heap.size+1) false
 v:aZ W vb (.map (some b))
 mv:MV Jb W b n (qZ vT)
theorem XJ.Jc{vb B:Nat}(hB:w.heap.size<=B)(hb:b<B):jC B (fun W=>XJ w W b vb n):=by intro W W' g h a f;refine⟨kY (B:=B) (w:=w) pD hB _ _ _ h.bl a f,jV B _ _ _ _ _ h.r a f,jV B _ _ _ _ _ h.v a f,h.mv.block (a.block b h.mv.lt (fun e=>?_))⟩;have:=(f b e.symm).1;omega
theorem XJ.go{w W W':World}{b vb n:Nat}(h:XJ w W b vb n)(k:Below W W W'):XJ w W' b vb n:=⟨h.bl.trans (k.mono h.bl.size),h.r.block (k.block _ h.r.lt),h.v.block (k.block _ h.v.lt),h.mv.go k⟩
theorem Cr{l:Nat}{args:Array Value}{Q:Ending->World->Prop}(f:FuncId)(h:Calls P f args w R)(k:∀e w',R e w'->Q e w'):Fence.wide.fn f/\CallsIn (Fence.wide.inRound l) n P f args w Q:=⟨bO,((pd.2 h).inRound l).mono k⟩
theorem vU(B b:Nat)(cs:List Value):jC B (fun W=>∀i u,cs[i]?=some u->W.cell? ⟨b,i,none⟩=some u):=fun W W' row h hg hr i u hu=>nO B _ _ W W' row (h i u hu) hg hr
theorem aaE(h:Below W W W')(hs:s<=W.heap.size)(M:List Nat):aq s M W W':=(bq h M).to hs
theorem Rz{N:List Nat}(hx:kH w N x [x.kind,x.name,x.n,x.d,.slice A m c])(hok:∀y,y∈iZ x->pX y):
 CB 216 #[.agg #[x.kind,x.name,x.n,x.d,.slice A m c]] true w:=by
 refine wid ?_;obtain⟨W1,aw,F1⟩:=dR (((Fr.nil w).a w [x.kind,x.name,x.n,x.d,.slice A m c] 66).a (w+1) [false] 4);have HF:=Hd2 F1 ((hx.less (M':= []) pH).keep (bq F1.bl _));have Ko:=Hd hok;refine op1 F1 ?_;intros;clear F1 hx hok;refine sH func216 rfl ntmps216 ?_
 gi_wp2_with (first
  |(refine Cl 164 (Dh x A m c _) ?_;rintro e G ⟨rfl,al⟩;have an:=Hd al;clear al)
  |(refine Cl 253 (N7 W1) ?_;rintro e F ⟨n,rfl,mv,V⟩;obtain⟨o,ax,Z,F3⟩:=fP (w:=F) ((HF.a.go V).a F [.map (some W1.heap.size)] 284);have HM:=fB (⟨F3.bl,⟨F3.aQ 1 0,F3.zN 1 0⟩,⟨F3.aQ 2 0,F3.zN 2 0⟩,mv.go Z⟩:XJ w o W1.heap.size F.heap.size n) ((HF.u.go V).go Z) (show W1.heap.size<o.heap.size from bX mv.lt Z.size);refine op1 F3 ?_;intros;clear mv V)
  |fail)
 have hw:=an.out;have hb4:Below o o G:=by rw[<-hw];exact bel
 have F4:Fr o G [(o, [x.kind,x.name,x.n,x.d,.slice A m c])]:=by rw[<-hw];exact(Fr.nil o).a o.heap.size _ _
 have H:=HM.a.go hb4;have ag:W1.heap.size<G.heap.size:=bX HM.v hb4.size;have am:=HM.b.go hb4;refine m_ (M:= []) (w0:=G) rfl rfl trivial (eR func218 pk rfl) (xR am (F4.nth 0) po pH) (cG _ _) pH (fun v hv=>GX hv) (fun au W=>XJ w W W1.heap.size F.heap.size n) (fun _ _=>False) (fun _=>XJ.Jc H.bl.size ag) (fun _=>kX _ _) H ?round ?done ?stop;case stop=>rintro D j W hD hf;exact hf.elim
 case round=>
  rintro l s v au W Q O az ai aA ay C;obtain⟨aB,Q⟩:=Q;obtain⟨cs,ad,rfl⟩:=eE.1 (show v∈(valsE G x [x.kind,x.name,x.n,x.d,.slice A m c]).map vS by rw[Q];simp);obtain⟨y,hy,Ve⟩:=KD x am ad;obtain⟨D,m2,d2,rfl,ap,ak⟩:=kH.sl Ve;obtain⟨S,Y,aj,q1,q2,X⟩:=Ko.out y hy;obtain⟨V1,av,J,G1⟩:=fP (w:=W) ((Fr.nil W).a W [y.kind,y.name,y.n,y.d,.slice D m2 d2] 66);have ab:=C.go J;have aq:=ak.len;gi_wp2;refine⟨aaE J ai _,fun U=>XJ w U W1.heap.size F.heap.size n/\∀i u, [Value.int .i64 y.kind,y.name,y.n,y.d,.slice D m2 d2][i]?=some u->U.cell? ⟨W,i,none⟩=some u,(XJ.Jc H.bl.size ag).and (vU _ _ _),⟨ab,G1.nth 0⟩,?_⟩;rintro U ar ah ⟨K,f⟩;have Vh:s<=U.heap.size:=by rw[ah];exact cF ai J.size
  obtain⟨t,ao,q,z⟩:=fP (w:=U) ((Fr.nil U).a U [.int .i64 (y.l.length:Nat),S,Y] 287);have u0:U.cell? ⟨W,0,none⟩=_:=f 0 _ rfl;have x0:t.cell? ⟨W,0,none⟩=_:=(q.cell (p:=⟨W,0,none⟩) (bw U _ (f 0 _ rfl))).trans (f 0 _ rfl);have x1:t.cell? ⟨W,1,none⟩=_:=(q.cell (p:=⟨W,1,none⟩) (bw U _ (f 1 _ rfl))).trans (f 1 _ rfl);have x2:t.cell? ⟨W,2,none⟩=_:=(q.cell (p:=⟨W,2,none⟩) (bw U _ (f 2 _ rfl))).trans (f 2 _ rfl);have x3:t.cell? ⟨W,3,none⟩=_:=(q.cell (p:=⟨W,3,none⟩) (bw U _ (f 3 _ rfl))).trans (f 3 _ rfl);have x4:t.cell? ⟨W,4,none⟩=_:=(q.cell (p:=⟨W,4,none⟩) (bw U _ (f 4 _ rfl))).trans (f 4 _ rfl);have uv:=K.v.1;have O:=K.mv.look_ok underlying284 (NZ U) po ap.1;rw[aj]at O;simp only[eK,Option.isSome_some]at O;rw[aq]at O z ao;have E:=fB (K.go q) q Vh;have HG:=Hd z;have p1:=aN (z.aQ 0 1);have p2:=aN (z.aQ 0 2);have w1:=fun h:S=false=>(X h).1;have w2:=fun(h:S=false) (h':Y=false)=>(X h).2 h';refine op1 z ?_;intros;clear Q ad hy Ve ak aj C ab K f J q G1 z ar ah Vh X;cases S<;>cases Y
  all_goals
   try have w3:=w1 rfl
   try have w4:=w2 rfl rfl
   try have q4:=q1 rfl
   try have I:=Hd (q2 rfl)
   clear w1 w2 q1 q2
  ·gi_wp2;exact⟨aaE E.b E.v _,E.a⟩
  ·gi_wp2;exact⟨aaE E.b E.v _,E.a⟩
  all_goals
   gi_wp2_with (first
    |(have g:=T.out;clear g;refine Cr 209 (dM y.d 1 1099511627776 U6) ?_;rintro e U7 ⟨rfl,ac⟩;rw[cx I.c,cx I.w];have aa:=Hd (T.out.trans (ac.mono T.out.size));clear ac)
    |(refine Cr 209 (dM y.n 0 1099511627776 t) ?_;rintro e U6 ⟨rfl,L⟩;rw[cx I.a,cx I.b];have T:=Hd L;have af:=HG.out.go L;have z3:=(L.cell (p:=⟨W,3,none⟩) (bw t _ x3)).trans x3;refine op1 af ?_;intros;clear L af)
    |fail)
   exact⟨aaE (E.b.trans (aa.out.mono E.b.size)) E.v _,E.a.go aa.out⟩
 case done=>rintro D W hD C ae;have r1:=C.r.1;have r2:=C.r.2;gi_wp2;refine⟨po,.inl ⟨_,_,rfl,jt (fA ae),?_⟩⟩;exact⟨true,by simp[results,go_sem,qg (cZ r1) (fA ae)],rfl,nV (C.bl.setCell (p:=⟨w+1,0,none⟩) po _) (by have:=H.bl.size;omega) pD⟩
def Dj(r:aS)(x:aJ):Prop:=(1<=x.2.1/\x.2.1<=256)/\(1<=x.2.2.1/\x.2.2.1<=4096)/\(1<=x.2.2.2.1/\x.2.2.2.1<=3)/\(∀c,c∈r.aT->c.2.2.2.2.2.1<(x.2.1+1).tdiv 2)/\(x.2.2.2.2.1=true->(au x).kind=0/\(au x).name.toList= []/\(au x).n=0/\(au x).d=0/\(au x).l= [])/\(x.2.2.2.2.1=false->∀y,y∈iZ (au x)->pX y)
structure F15(r:aS):Prop where
 c0:r.aT≠ []
 r0:r.rounds≠ []
 aT:∀c,c∈r.aT->rC c
 bonus:∀c,c∈r.bonus->mQ c
 malus:∀c,c∈r.malus->mQ c
 prizes:pW 1099511627776 r.prizes
 points:pW 1099511627776 r.points
 best:0<=r.best/\r.best<=64
 bp:r.best=0↔r.points= []
 ties:∀t,t∈r.ties->t.2≠ []/\∀k,k∈t.2->sZ k
 rounds:∀x,x∈r.rounds->Dj r x
theorem RD(hx:Sl bK w M A n c l)(h:∀k,k∈l->sZ k):
 CB 165 #[.slice A n c,.func (.func 212) #[] #[]] true w:=
 Qh (gf:=212) (caps:=#[]) (fun _ W=>Below w w W) (eR (P:=prog) func212 pk rfl) hx pE (fun _ W W' a b=>a.trans (b.mono a.size)) (fun _ W a=>bq a _) (fun k x W cs hk hr hI=>by obtain⟨rfl,-⟩:=rd_key hr;exact(Vg x (h x (bh hk)) W).mono (fun e w' a=>⟨a.1,hI.trans (a.2.mono hI.size)⟩))
theorem Dk{l:List bW}(hx:Sl bW w M A n c l)(h:∀k,k∈l->mQ k):
 CB 206 #[.slice A n c,.func (.func 207) #[] #[]] true w:=
 Vf (gf:=207) (caps:=#[]) (fun _ W=>Below w w W) (eR (P:=prog) func207 pk rfl) hx pE (fun _ W W' a b=>a.trans (b.mono a.size)) (fun _ W a=>bq a _) (fun k x W cs hk hr hI=>by obtain⟨rfl,-⟩:=aaI hr;exact(Ry x (h x (bh hk)) W).mono (fun e w' a=>⟨a.1,hI.trans (a.2.mono hI.size)⟩))
theorem N9{l:List bT}(hx:Sl bT w M A n c l)(h:∀k,k∈l->rC k):
 CB 204 #[.slice A n c,.func (.func 205) #[] #[]] true w:=
 Di (gf:=205) (caps:=#[]) (fun _ W=>Below w w W) (eR (P:=prog) func205 pk rfl) hx pE (fun _ W W' a b=>a.trans (b.mono a.size)) (fun _ W a=>bq a _) (fun k x W cs hk hr hI=>by obtain⟨rfl,-⟩:=lT hr;exact(Rx x (h x (bh hk)) W).mono (fun e w' a=>⟨a.1,hI.trans (a.2.mono hI.size)⟩))
theorem Vj{x:dA}(hs:Sl bK w M B m d x.2)(h:x.2≠ []/\∀k,k∈x.2->sZ k):
 CB 211 #[.agg #[x.1,.slice B m d]] true w:=by
 refine wid ?_;obtain⟨W1,g,F1⟩:=dR ((Fr.nil w).a w [x.1,.slice B m d] 142);have H:=fB (RD (hs.go F1.bl) h.2) F1.bl (show 0<m by have:=hs.len;have:=fL.2 h.1;omega);have i:=H.v;refine op1 F1 ?_;intros;clear F1 hs h;refine ent func211 ntmps211 ?_
 gi_wp2_with (first
  |(refine Cl 165 H.out.1 ?_;rintro e j ⟨rfl,f⟩;have HB:=Hd (H.b.trans (f.mono H.b.size));clear f)
  |fail)
 go_ret;exact⟨rfl,HB.out⟩
theorem GY{c:bT}{p:Int}(hp:w.cell? ⟨b,1,none⟩=some (.int .i64 p))(h1:1<=p/\p<=256)(h:c.2.2.2.2.2.1<(p+1).tdiv 2):
 CB 215 #[.agg #[c.1,c.2.1,c.2.2.1,c.2.2.2.1,c.2.2.2.2.1,c.2.2.2.2.2.1,c.2.2.2.2.2.2],.pointer (some ⟨b,0,none⟩)] true w:=by
 refine wid ?_;obtain⟨W1,f,F1⟩:=dR ((Fr.nil w).a w [c.1,c.2.1,c.2.2.1,c.2.2.2.1,c.2.2.2.2.1,c.2.2.2.2.2.1,c.2.2.2.2.2.2] 59);have g:=(F1.bl.cell (p:=⟨b,1,none⟩) (bw w _ hp)).trans hp;have HB:=Hd F1.bl;have i:IntKind.i64.wrap (p+1)=p+1:=by rw[cA];omega
 have e:IntKind.i64.wrap ((p+1).tdiv 2)=(p+1).tdiv 2:=by rw[eO pj,cA];omega
 refine op1 F1 ?_;intros;clear F1 hp;refine ent func215 ntmps215 ?_;gi_wp2;go_ret;exact⟨by simp[e,h],HB.out⟩
theorem Og{rb:Nat}{x:aJ}{D:Option Addr}(hs:Sl aU w M D m d (au x).l)(hi:i64 (au x).kind/\i64 (au x).n/\i64 (au x).d)(hc:w.cell? ⟨rb,1,none⟩=some (.slice A n c))(hx:Sl bT w M A n c r.aT)(h:Dj r x):
 Calls prog 214 #[.agg #[x.1,x.2.1,x.2.2.1,x.2.2.2.1,x.2.2.2.2.1,x.2.2.2.2.2.1,(au x).kind,(au x).name,(au x).n,(au x).d,.slice D m d,x.2.2.2.2.2.2.2.1,x.2.2.2.2.2.2.2.2],.pointer (some ⟨rb,0,none⟩)] w fun e w'=>e=.returned true/\Below w w w':=by
 obtain⟨pl,L⟩:=aC x.2.2.2.2.1;rw[L];refine wid ?_;obtain⟨W1,ad,F1⟩:=dR ((Fr.nil w).a w [x.1,x.2.1,x.2.2.1,x.2.2.2.1,pl,x.2.2.2.2.2.1,(au x).kind,(au x).name,(au x).n,(au x).d,.slice D m d,x.2.2.2.2.2.2.2.1,x.2.2.2.2.2.2.2.2] 68);have HX:=h_ (hx.go F1.bl) ((F1.bl.cell (p:=⟨rb,1,none⟩) (bw w _ hc)).trans hc) (hs.go F1.bl) hs.len;have HF:=Hd F1;have H:=Hd h;have HI:=Hd hi;have HP:=Hd L;refine op1 F1 ?_;intros;clear F1 hs hc hx h hi L;cases pl
 ·refine ent func214 ntmps214 ?_
  gi_wp2_with (first
   |(refine Cl 216 (Rz (x:=au x) (N:=M) (w:=V5) (by
       have h6:=HX.c.go Z.out;have h7:=HI.out;generalize au x=e at h6 h7 |-;cases e;exact kH.of h7 h6) (H.y HP.out)) ?_
     rintro e w6 ⟨rfl,aa⟩;have ab:=Hd (F5.out.bl.trans (aa.mono F5.out.bl.size));clear aa)
   |(refine Cl 204 J.out ?_;rintro e I ⟨rfl,i⟩
     skip
     obtain⟨V5,oM,F,q⟩:=fP (w:=I) ((F4.out.go i).a I [(au x).kind,(au x).name,(au x).n,(au x).d,.slice D m d] 66);have Z:=Hd (j.out.trans ((i.trans (F.mono i.size)).mono j.out.size));have F5:=Hd q;have G:=F4.out.go i;refine op1 G ?_;intros;refine op1 q ?_;intros;clear i F G q)
   |(have g:=F3.out;clear g;refine Cl 209 (dM x.2.2.2.1 1 3 Y) ?_;rintro e z ⟨rfl,hb4⟩;rw[cx H.out.2.2.1.1,cx H.out.2.2.1.2];have F4:=Hd (F3.out.go hb4);have j:=Hd (E.out.trans (hb4.mono E.out.size));have f:=F4.out;have k9:=(j.out.cell (p:=⟨rb,1,none⟩) (bw W1 _ HX.b)).trans HX.b;have J:=Hd (Di (gf:=215) (caps:=#[.pointer (some ⟨w,0,none⟩)]) (M:=M) (w:=z) (fun _ W=>Below z z W) (eR (P:=prog) func215 pk rfl) (HX.a.go j.out) pE (fun _ W W' a b=>a.trans (b.mono a.size)) (fun _ W a=>bq a _) (fun k c W cs K O t=>by
        obtain⟨rfl,-⟩:=lT O;exact(GY (p:=x.2.1) ((F4.out.go t).aQ 0 1) H.out.1 (H.d c (bh K))).mono (fun e w' a=>⟨a.1,t.trans (a.2.mono t.size)⟩)))
     refine op1 f ?_;intros;clear hb4 f)
   |(have g:=o.out;clear g;refine Cl 209 (dM x.2.2.1 1 4096 X) ?_;rintro e Y ⟨rfl,v⟩;rw[cx H.out.2.1.1,cx H.out.2.1.2];have F3:=Hd (o.out.go v);have E:=Hd (C.out.trans (v.mono C.out.size));have f:=F3.out;refine op1 f ?_;intros;clear v f)
   |(refine Cl 209 (dM x.2.1 1 256 W1) ?_;rintro e X ⟨rfl,u⟩;rw[cx (H.out.1.1),cx (H.out.1.2)];have o:=Hd (HF.out.go u);have C:=Hd u;have f:=o.out;refine op1 f ?_;intros;clear u f)
   |fail)
  go_ret;exact⟨rfl,ab.out⟩
 ·obtain⟨Q,S,T,V,k4⟩:=H.e HP.out;have ac:m=0:=by have:=HX.w;rw[k4]at this;simpa using this.symm
  subst ac;have HK:=h_ Q S T V;clear Q S T V k4;refine ent func214 ntmps214 ?_
  gi_wp2_with (first
   |(refine Cl 204 J.out ?_;rintro e I ⟨rfl,i⟩;obtain⟨Q,S,T,V⟩:=HK.out;obtain⟨V5,oM,F,q⟩:=fP (w:=I) ((F4.out.go i).a I [.int .i64 0,(au x).name,.int .i64 0,.int .i64 0,.slice D 0 d] 66);have Z:=Hd (j.out.trans ((i.trans (F.mono i.size)).mono j.out.size));have F5:=Hd q;have G:=F4.out.go i;refine op1 G ?_;intros;refine op1 q ?_;intros;clear i F G q)
   |(have g:=F3.out;clear g;refine Cl 209 (dM x.2.2.2.1 1 3 Y) ?_;rintro e z ⟨rfl,hb4⟩;rw[cx H.out.2.2.1.1,cx H.out.2.2.1.2];have F4:=Hd (F3.out.go hb4);have j:=Hd (E.out.trans (hb4.mono E.out.size));have f:=F4.out;have k9:=(j.out.cell (p:=⟨rb,1,none⟩) (bw W1 _ HX.b)).trans HX.b;have J:=Hd (Di (gf:=215) (caps:=#[.pointer (some ⟨w,0,none⟩)]) (M:=M) (w:=z) (fun _ W=>Below z z W) (eR (P:=prog) func215 pk rfl) (HX.a.go j.out) pE (fun _ W W' a b=>a.trans (b.mono a.size)) (fun _ W a=>bq a _) (fun k c W cs K O t=>by
        obtain⟨rfl,-⟩:=lT O;exact(GY (p:=x.2.1) ((F4.out.go t).aQ 0 1) H.out.1 (H.d c (bh K))).mono (fun e w' a=>⟨a.1,t.trans (a.2.mono t.size)⟩)))
     refine op1 f ?_;intros;clear hb4 f)
   |(have g:=o.out;clear g;refine Cl 209 (dM x.2.2.1 1 4096 X) ?_;rintro e Y ⟨rfl,v⟩;rw[cx H.out.2.1.1,cx H.out.2.1.2];have F3:=Hd (o.out.go v);have E:=Hd (C.out.trans (v.mono C.out.size));have f:=F3.out;refine op1 f ?_;intros;clear v f)
   |(refine Cl 209 (dM x.2.1 1 256 W1) ?_;rintro e X ⟨rfl,u⟩;rw[cx (H.out.1.1),cx (H.out.1.2)];have o:=Hd (HF.out.go u);have C:=Hd u;have f:=o.out;refine op1 f ?_;intros;clear u f)
   |fail)
  go_ret;exact⟨rfl,F5.out.bl⟩
theorem KP{s1 s2 s3 s4 s5 s6 s7:dK}(hr:dG w M r s1 s2 s3 s4 s5 s6 s7)(h:F15 r):
 CB 162 #[.agg (aV r s1 s2 s3 s4 s5 s6 s7).toArray] true w:=by
 refine wid ?_;obtain⟨W1,aa,F1⟩:=dR ((Fr.nil w).a w [r.name,.slice s1.A s1.n s1.c,.slice s2.A s2.n s2.c,.slice s3.A s3.n s3.c,.slice s4.A s4.n s4.c,.slice s5.A s5.n s5.c,.slice s6.A s6.n s6.c,.slice s7.A s7.n s7.c,r.best] 28);have O:=hr.go F1.bl;have HF:=Hd F1;have H:=Hd h;have i:=Hd O;have Z:0<s1.n:=by have:=hr.aT.len;have:=fL.2 h.c0;omega
 have n5:0<s5.n:=by have:=hr.rounds.len;have:=fL.2 h.r0;omega
 have b1:((s1.n:Int)==0)=false:=px;have b5:((s5.n:Int)==0)=false:=px;have b7:(r.best==0)=((s7.n:Int)==0):=by
  have N:=hr.points.len;by_cases hb:r.best=0
  ·have Y:=h.bp.1 hb;have z:s7.n=0:=by rw[Y]at N;simpa using N.symm
   simp[hb,z]
  have z:r.points≠ []:=fun e=>hb (h.bp.2 e);have:=fL.2 z;rw[cU.2 hb,cU.2 (show(s7.n:Int)≠0 by omega)]
 refine op1 F1 ?_;intros;clear hr O h F1 Z n5;refine ent func162 ntmps162 ?_
 gi_wp2_with (first
  |(refine Cl 213 (Ru (gf:=214) (caps:=#[.pointer (some ⟨w,0,none⟩)]) (M:=M) (fun _ W=>Below T T W) (eR (P:=prog) func214 pk rfl) (i.out.rounds.go j.out) pE (fun _ W W' a b=>a.trans (b.mono a.size)) (fun _ W a=>bq a _)
      (fun k x W cs E hr o=>by obtain⟨D,m,d,rfl,-,X,F⟩:=jg hr;have hb:=j.out.trans (o.mono j.out.size);exact(Og (M:=M) (r:=r) F X ((HF.out.go hb).aQ 0 1) (i.out.aT.go hb) (H.out.rounds x (bh E))).mono (fun e w' a=>⟨a.1,o.trans (a.2.mono o.size)⟩))) ?_
    rintro e ab ⟨rfl,Q⟩;have V:=Hd (j.out.trans (Q.mono j.out.size));clear Q)
  |(refine Cl 210 (Ye (gf:=211) (caps:=#[]) (M:=M) (fun _ W=>Below S S W) (eR (P:=prog) func211 pk rfl) (i.out.ties.go u.out) pE (fun _ W W' a b=>a.trans (b.mono a.size)) (fun _ W a=>bq a _)
      (fun k x W cs E hr o=>by obtain⟨D,m,d,rfl,F⟩:=vJ hr;exact(Vj F (H.out.ties x (bh E))).mono (fun e w' a=>⟨a.1,o.trans (a.2.mono o.size)⟩))) ?_
    rintro e T ⟨rfl,G⟩;have j:=Hd (u.out.trans (G.mono u.out.size));have f:=HF.out.go j.out;refine op1 f ?_;intros;clear G f)
  |(refine Cl 209 (dM r.best 0 64 w7) ?_;rintro e S ⟨rfl,L⟩;rw[cx H.out.best.1,cx H.out.best.2];have u:=Hd (y.out.trans (L.mono y.out.size));have f:=HF.out.go u.out;refine op1 f ?_;intros;clear L f)
  |(have g:=q.out;clear g;refine Cl 208 (GU (i.out.points.go q.out) H.out.points) ?_;rintro e w7 ⟨rfl,K⟩;have y:=Hd (q.out.trans (K.mono q.out.size));have f:=HF.out.go y.out;refine op1 f ?_;intros;clear K f)
  |(refine Cl 208 (GU (i.out.prizes.go t.out) H.out.prizes) ?_;rintro e w6 ⟨rfl,J⟩;have q:=Hd (t.out.trans (J.mono t.out.size));have f:=HF.out.go q.out;refine op1 f ?_;intros;clear J f)
  |(have g:=p.out;clear g;refine Cl 206 (Dk (i.out.malus.go p.out) H.out.malus) ?_;rintro e w5 ⟨rfl,I⟩;have t:=Hd (p.out.trans (I.mono p.out.size));have f:=HF.out.go t.out;refine op1 f ?_;intros;clear I f)
  |(refine Cl 206 (Dk (i.out.bonus.go v.out) H.out.bonus) ?_;rintro e w4 ⟨rfl,hb4⟩;have p:=Hd (v.out.trans (hb4.mono v.out.size));have f:=HF.out.go p.out;refine op1 f ?_;intros;clear hb4 f)
  |(refine Cl 204 (N9 i.out.aT H.out.aT) ?_;rintro e w3 ⟨rfl,C⟩;have v:=Hd C;have f:=HF.out.go C;refine op1 f ?_;intros;clear C f)
  |fail)
 go_ret;exact⟨rfl,HF.out.bl.trans (V.out.mono HF.out.bl.size)⟩
end
