/- Lemmas -/
import Derived.Test.YtfdmnogfflcllaaGreatDoorM05
set_option linter.all false
set_option maxRecDepth 100000
set_option maxHeartbeats 0
namespace Go.Proofs.YtfdmnogfflcllaaGreatDoor
open Go.Proofs.Tryz
theorem TJ{p:Prop}(h:p:=by exact⟨by rw[<-h1.1];simp only[World.cell?,h2],by rw[<-h1.2];simp only[World.frozen?,h2]⟩):p:=h
theorem TT{p:Prop}(h:p:=by clear h;refine ent func283 ntmps283 ?_;gi_wp2;go_ret;exact⟨by first|rfl|simp,F.out.bl⟩):p:=h
theorem akC{p:Prop}(h:p:=by exact⟨⟨k+1,pj,by go_num,F4,ah⟩,by simp[intOf];omega⟩):p:=h
variable {cs:List Value}{m b:Nat}{P:Program}{t:TypeId}{ps:List (Int×Int)}{W:World}{L:List (Nat×List Value)}
section
open Go.ChangeShapes Go.WideShapes Go.ChangeAt Go.RowKit Go.Deep Go.Joins
inductive aU where
 |mk (kind:Int) (name:ByteArray) (n d:Int) (l:List aU)
namespace aU
def kind:aU->Int|mk k _ _ _ _=>k
def name:aU->ByteArray|mk _ s _ _ _=>s
def n:aU->Int|mk _ _ n _ _=>n
def d:aU->Int|mk _ _ _ d _=>d
def l:aU->List aU|mk _ _ _ _ l=>l
end aU
inductive kH(w:World)(M:List Nat):aU->List Value->Prop
 |mk {kind n d:Int}{name:ByteArray}{l:List aU}{A:Option Addr}{m c:Nat}(es:Nat->List Value) (hi:i64 kind/\i64 n/\i64 d) (hl:l.length=m) (hc:m<=c) (hr:jG c) (hs:m<=140737488355328)
    (hb:l= []\/∃b o,A=some ⟨b,o,none⟩/\∀k,k<l.length->wR w M b (o+k*5) (es k)) (hx:∀k x,l[k]?=some x->kH w M x (es k)):
    kH w M (.mk kind name n d l) [kind,name,n,d,.slice A m c]
theorem kH.len{w:World}{M:List Nat}{x:aU}(h:kH w M x cs):cs.length=5:=by cases h;rfl
theorem kH.keep{w w':World}{M:List Nat}{x:aU}{cs:List Value}(h:kH w M x cs)(k:Keeps M w w'):kH w' M x cs:=by
 induction h with
 |mk es hi hl hc hr hs hb hx ih=>
  refine .mk es hi hl hc hr hs ?_ ih;rcases hb with g|⟨b,o,rfl,g⟩;·exact .inl g
  ·exact .inr ⟨b,o,rfl,fun j C=>(g j C).keep k⟩
theorem kH.less{w:World}{M M':List Nat}{x:aU}{cs:List Value}(h:kH w M x cs)(k:∀q,q∈M'->q∈M):kH w M' x cs:=by
 induction h with
 |mk es hi hl hc hr hs hb hx ih=>
  refine .mk es hi hl hc hr hs ?_ ih;rcases hb with g|⟨b,o,rfl,g⟩;·exact .inl g
  ·exact .inr ⟨b,o,rfl,fun j C=>(g j C).less k⟩
theorem kH.more{w:World}{M:List Nat}{x:aU}{p:Nat}(h:kH w M x cs)(k:w.heap.size<=p):kH w (p::M) x cs:=by
 induction h with
 |mk es hi hl hc hr hs hb hx ih=>
  refine .mk es hi hl hc hr hs ?_ ih;rcases hb with g|⟨b,o,rfl,g⟩;·exact .inl g
  ·refine .inr ⟨b,o,rfl,fun j C=>⟨fun a=>?_,(g j C).2⟩⟩;have d:=(hx j _ (cd C)).len;have f:b<w.heap.size:=bw w _ ((g j C).2 0 _ (cd pj));rcases cD.1 a with e|e;·omega
   exact(g j C).1 e
instance:Rep aU where
 sz:=5
 rd:=kH
 len:=kH.len
 keep:=kH.keep
 less:=kH.less
 more:=kH.more
instance:kE aU:=⟨pt⟩
theorem kH.sl{w:World}{M:List Nat}{x:aU}(h:kH w M x cs):∃A m c,cs= [.int .i64 x.kind,.string x.name,.int .i64 x.n,.int .i64 x.d,.slice A m c]/\(i64 x.kind/\i64 x.n/\i64 x.d)/\Sl aU w M A m c x.l:=by
 cases h with
 | @mk kind n d name l A m c es hi hl hc hr hs hb hx=>
   refine⟨A,m,c,rfl,hi,hl,hc,hr,hs,?_⟩;rcases hb with g|⟨b,o,rfl,g⟩;·exact .inl g
   ·exact .inr ⟨b,o,rfl,fun k x e=>⟨es k,hx k x e,g k (bu.1 e).1⟩⟩
theorem kH.of{w:World}{M:List Nat}{kind n d:Int}{name:ByteArray}{l:List aU}{A:Option Addr}{c:Nat}(hi:i64 kind/\i64 n/\i64 d)(h:Sl aU w M A m c l):kH w M (.mk kind name n d l) [kind,name,n,d,.slice A m c]:=by
 rcases h.at_ with g|⟨b,o,rfl,g⟩;·subst g;exact .mk (fun _=> []) hi h.len h.cap h.room h.small (.inl rfl) (fun k x a=>by simp at a)
 have i:∀k,∃f,∀x,l[k]?=some x->kH w M x f/\wR w M b (o+k*5) f:=fun k=>by
  cases e:l[k]? with
  |none=>exact⟨[],fun x hx=>by cases hx⟩
  |some y=>obtain⟨f,j,p⟩:=g k y e;exact⟨f,fun x hx=>by cases hx;exact⟨j,p⟩⟩
 refine .mk (fun k=>(i k).choose) hi h.len h.cap h.room h.small (.inr ⟨b,o,rfl,fun k a=>((i k).choose_spec _ (cd a)).2⟩) (fun k x a=>((i k).choose_spec x a).1)
theorem Sl.qQ{w:World}{M:List Nat}{A:Option Addr}{c k:Nat}{l:List aU}{y:aU}(h:Sl aU w M A m c l)(hk:l[k]?=some y):
 ∃b o B n d,A=some ⟨b,o,none⟩/\(w.cell? ⟨b,o+k*5,none⟩=some (.int .i64 y.kind)/\w.cell? ⟨b,o+k*5+1,none⟩=some (.string y.name)/\w.cell? ⟨b,o+k*5+2,none⟩=some (.int .i64 y.n)/\w.cell? ⟨b,o+k*5+3,none⟩=some (.int .i64 y.d)/\w.cell? ⟨b,o+k*5+4,none⟩=some (.slice B n d))/\(i64 y.kind/\i64 y.n/\i64 y.d)/\Sl aU w M B n d y.l:=by
 obtain⟨b,o,f,rfl,e,a⟩:=h.get hk;obtain⟨B,n,d,rfl,u,hs⟩:=kH.sl e;exact⟨b,o,B,n,d,rfl,⟨a.2 0 _ rfl,a.2 1 _ rfl,a.2 2 _ rfl,a.2 3 _ rfl,a.2 4 _ rfl⟩,u,hs⟩
theorem NG{α:Type} [kE α] {e:TypeId}(ht:P.underlying t=some (.slice e))(hc:P.cellsOf e=Rep.sz α)(hb:1<=P.bytesOf e){H:Type}{enc:TypeId×Value->H}{w:World}{held:Bool}{fuel:Nat}{d:DataW H}{pl:List MemPlace}
 (h:DataW.trod enc P w 0 (fun _=>true) held fuel t cs=some (d,pl)) (hw:∀n,n∈d.weights P t->n<=reachBytes)
 (ho:∀(n:Nat) (cs':List Value) (d':DataW H) (pl':List MemPlace),SizeOf.sizeOf d'<SizeOf.sizeOf d->DataW.trod enc P w 0 (fun _=>true) held n e cs'=some (d',pl')->(∀k,k∈d'.weights P e->k<=reachBytes)->∃v:α,Rep.rd w [] v cs'):∃v:List α,Rep.rd w [] v cs:=by
 have N:=kE.pos (α:=α);rcases open_slice ht h with⟨rfl,_⟩|⟨a,len,T,m,n,D,G,rfl,_,K,X,B,hx,I⟩;·exact akB
 obtain⟨rfl,rfl⟩:=me hx;simp only[mf]at B;subst B;have R:m*P.bytesOf e<=reachBytes:=by have:=hw ((((List.range len).map D).length+((List.range (m-len)).map fun j=>D (len+j)).length)*P.bytesOf e) (by simp[DataW.weights,ht]);exact YB
 have aa:m<=reachBytes:=cF (by simpa using mK m hb) R;have Z:reachBytes<=140737488355328:=pt;have Y:maxLen=9223372036854775807:=pt;obtain⟨F,y,E⟩:=IK (α:=α) (p:=fun i x=>∃g,w.cells? 0 (a.add (i*Rep.sz α)) (Rep.sz α)=some g/\Rep.rd w [] x g) len (fun i J=>by obtain⟨cs',f,l⟩:=I i pj;rw[hc]at f;have z:D i∈(List.range len).map D:=eE.2 ⟨i,ga.2 J,rfl⟩;obtain⟨v,Q⟩:=ho n cs' (D i) (G i) (by have:=List.sizeOf_lt_of_mem z;simp only[DataW.slice.sizeOf_spec];omega) l (fun k q=>hw k (by simp only[DataW.weights,ht,cD,cK];exact .inr (.inl (weightsAll_mem q _ z))));exact⟨v,cs',f,Q⟩);refine⟨F,some a,len,m,rfl,y,K,by unfold jG;omega,pj,?_⟩;by_cases V:len=0;·left;subst V;simpa using y
 right;obtain⟨b,o,S⟩:=a;have O:S=none:=by obtain⟨g,f,-⟩:=E 0 (F[0]'pj) (cd pj);obtain⟨_,r,l⟩:=nx f;have s:=l 0 N;rw[cd pj]at s;simpa[Addr.add]using World.cell?_spot s
 subst O;refine⟨b,o,rfl,fun k x q=>?_⟩;obtain⟨g,f,l⟩:=E k x q;refine⟨g,l,po,fun j u C=>?_⟩;obtain⟨_,r,s⟩:=nx f;have:=s j (by rw[<-r];exact(bu.1 C).1);rw[C,eT,eT]at this;exact this
theorem NH{f0 f1 f2 f3 f4:Field}(ht:P.underlying t=some (.struct #[f0,f1,f2,f3,f4]))(hC:P.cellsOf t=5)(hb:1<=P.bytesOf t)
 (o:f0.offset=0/\f1.offset=1/\f2.offset=2/\f3.offset=3/\f4.offset=4) (cc:P.cellsOf f0.type=1/\P.cellsOf f1.type=1/\P.cellsOf f2.type=1/\P.cellsOf f3.type=1/\P.cellsOf f4.type=1)
 (h0:P.underlying f0.type=some (.int .i64)) (h1:P.underlying f1.type=some .string) (h2:P.underlying f2.type=some (.int .i64)) (h3:P.underlying f3.type=some (.int .i64)) (h4:P.underlying f4.type=some (.slice t)):Opens aU P t:=by
 intro H aa w ab fuel cs d pl h I;obtain⟨N,B⟩:=aC (SizeOf.sizeOf d)
 induction N using Nat.strongRecOn generalizing fuel cs d pl with
 |_ N ih=>
 subst B;obtain⟨xs,n,_,hx,G,J,a⟩:=DataW.trod_struct ht h;obtain⟨rfl,rfl⟩:=me hx
 match xs,J,ih,I,a with
 | [y0,y1,y2,y3,y4],_,ih,I,a=>
   have C:cs.length=5:=by rw[G,hC]
   match cs,C,a with
   | [c0,c1,c2,c3,c4],_,a=>
     have e:=a 0 f0 rfl;have D:=a 1 f1 rfl;have f:=a 2 f2 rfl;have g:=a 3 f3 rfl;have i:=a 4 f4 rfl;rw[o.1,cc.1]at e;rw[o.2.1,cc.2.1]at D;rw[o.2.2.1,cc.2.2.1]at f;rw[o.2.2.2.1,cc.2.2.2.1]at g;rw[o.2.2.2.2,cc.2.2.2.2]at i;simp only[fi,List.drop_succ_cons,List.take_succ_cons,fT,iz,fI]at e D f g i;obtain⟨u,p,-,X⟩:=DataW.trod_int h0 e;obtain⟨V,q,-⟩:=DataW.trod_string h1 D;obtain⟨v,O,-,Y⟩:=DataW.trod_int h2 f;obtain⟨x,r,-,Z⟩:=DataW.trod_int h3 g;have E:i64 u/\i64 v/\i64 x:=⟨wf_i64 X,wf_i64 Y,wf_i64 Z⟩;simp only[mU,and_true]at p q O r;subst p;subst q;subst O;subst r;have Q:SizeOf.sizeOf y4.1<SizeOf.sizeOf (DataW.agg [y0.1,y1.1,y2.1,y3.1,y4.1]):=by simp only[DataW.agg.sizeOf_spec,List.cons.sizeOf_spec];omega
     obtain⟨l,A,m,c,s,hs⟩:=NG (α:=aU) h4 hC hb (fuel:=n) (cs:= [c4]) (d:=y4.1) (pl:=y4.2) i (fun k F=>I k (by simp only[DataW.weights,ht];exact nv (j:=4) rfl rfl k F)) (fun n' y z T K R S=>ih _ (Nat.lt_trans K Q) n' y z T R S rfl);simp only[mU,and_true]at s;subst s;exact⟨.mk u V v x l,kH.of E hs⟩
end
mutual
def nodes:aU->Nat
 | .mk _ _ _ _ l=>dh l+1
def dh:List aU->Nat
 | []=>0
 |x::l=>nodes x+dh l
end
mutual
def iM:aU->Nat
 | .mk _ _ _ _ l=>fO l+1
def fO:List aU->Nat
 | []=>0
 |x::l=>max (iM x) (fO l)
end
theorem gV(x:aU):nodes x=dh x.l+1:=by cases x;rw[nodes];rfl
theorem IQ(x:aU):iM x=fO x.l+1:=by cases x;rw[iM];rfl
theorem pV:∀a b:List aU,dh (a++b)=dh a+dh b
 | [],b=>by simp[dh]
 |x::a,b=>by rw[d_,dh,dh,pV a b];omega
theorem uY:∀a b:List aU,fO (a++b)=max (fO a) (fO b)
 | [],b=>by simp[fO]
 |x::a,b=>by rw[d_,fO,fO,uY a b];omega
theorem fK{x:aU}:∀{l:List aU},x∈l->nodes x<=dh l
 |y::l,h=>by
  rw[dh];rcases cD.1 h with rfl|h;·omega
  have:=fK h;omega
theorem FU(x:aU):1<=nodes x:=by have:=gV x;omega
theorem Cb{l:List aU}{k:Nat}{x:aU}(h:l[k]?=some x):dh (l.take (k+1))=dh (l.take k)+nodes x:=by have e:=(bu.1 h).1;rw[dm,pV,h];simp[dh]
theorem Cc{l:List aU}{k:Nat}{x:aU}(h:l[k]?=some x):fO (l.take (k+1))=max (fO (l.take k)) (iM x):=by rw[dm,uY,h];simp[fO]
theorem vI(l:List aU)(k:Nat):dh (l.take k)<=dh l:=by have h:=pV (l.take k) (l.drop k);rw[mh]at h;omega
theorem jX:∀l:List aU,l.length<=dh l
 | []=>bj _
 |x::l=>by have:=jX l;have:=FU x;simp[dh];omega
theorem iY{P:aU->Prop}(h:∀x,(∀y,y∈x.l->P y)->P x)(x:aU):P x:=by
 obtain⟨n,a⟩:=aC (nodes x)
 induction n using Nat.strongRecOn generalizing x with
 |_ n ih=>subst a;exact h x fun y g=>ih _ (by have:=fK g;rw[gV x];omega) y rfl
section
open Go.RowKit Go.Shelf
def qU(n L:Nat):Nat:=min n (L+1)
theorem yR:∀(x:aU) {M:List Nat}{A:Option Addr}{m c:Nat}{limit:Nat}{w:World},Sl aU w M A m c x.l->limit<=100000->
 CB 51 #[.agg #[x.kind,x.name,x.n,x.d,.slice A m c],.int .i64 (limit:Int)] (.int .i64 ((qU (nodes x) limit:Nat):Int)) w:=by
 intro x
 induction x using iY with
 |_ x ih=>
 intro M A m c limit w hs hl;refine wid ?_;have ad:=hs.small;have HM:=Hd hs.len;have HN:=Hd (gV x);obtain⟨l,K⟩:=aC x.l;rw[K]at hs HM HN ih;have IH:=Hd ih;have H:=Hd hs;obtain⟨X,p⟩:=aC (nodes x);rw[p]at HN;have HX:=Hd p;obtain⟨kd,D⟩:=aC x.kind;obtain⟨nm,I⟩:=aC x.name;obtain⟨Q,N⟩:=aC x.n;obtain⟨xd,J⟩:=aC x.d;rw[D,I,N,J,p];clear hs ih K p D I N J HX;obtain⟨W1,ab,F1⟩:=dR ((Fr.nil w).a w [kd,nm,Q,xd,.slice A m c] 66);refine op1 F1 ?_;intros;have F:=Hd F1;clear F1;refine ent func51 ntmps51 ?_;gi_wp2;gi_loopw[5,6] (fun v0 i wr=>∃k:Nat,k<=m/\v0=.int .i64 ((qU (dh (l.take k)+1) limit:Nat):Int)/\i=k/\Hid (Fr w wr [(w, [kd,nm,Q,xd,.slice A m c])])) (fun _ i _=>m-(intOf i).toNat);case atStart=>exact⟨0,cf _,by simp[dh,qU];try omega,rfl,F⟩
 case round=>
  obtain⟨k,Z,rfl,rfl,g⟩:=hrel;have z:=g.out;refine op1 z ?_;intros;clear z;obtain⟨T,r⟩:=aC (dh (l.take k)+1);rw[r];have q:=Hd r;clear r;by_cases E:k<m
  ·obtain⟨y,j⟩:=dW l k (by rw[HM.out];exact E);by_cases ac:T<=limit
   ·have f:qU T limit=T:=by unfold qU;omega
    rw[f];obtain⟨b,o,B,n',d',rfl,⟨h0,V,v,h3,h4⟩,-,hys⟩:=(H.out.go g.out.bl).qQ j;have ae:IntKind.i64.wrap ((limit:Int)-(T:Int))=((limit-T:Nat):Int):=by rw[cA];omega
    have G:=bh j;obtain⟨Y,s⟩:=aC (nodes y);have af:IntKind.i64.wrap ((T:Int)+((qU Y (limit-T):Nat):Int))=((qU (dh (l.take (k+1))+1) limit:Nat):Int):=by unfold qU;have:=Cb j;have:=q.out;rw[s]at*;rw[cA];omega
    have u:=Hd (IH.out y G hys (show limit-T<=100000 by omega));rw[s]at u;clear j G s f hys
    gi_wp2_with (first
     |(refine Cl 51 u.out ?_;rintro e w2 ⟨rfl,C⟩;have R:=Hd (g.out.go C);clear C)
     |fail)
    exact⟨⟨k+1,pj,rfl,by go_num,R⟩,by simp[intOf];omega⟩
   have f:qU T limit=limit+1:=by unfold qU;omega
   have O:qU X limit=limit+1:=by unfold qU;have:=vI l k;have:=HN.out;have:=q.out;omega
   rw[f];have S:=Hd O;clear j f O;gi_wp2;go_ret;exact⟨by rw[S.out];simp,g.out.bl⟩
  ·have aa:k=m:=pj;clear Z E;subst aa;have O:T=X:=by
    have V:=HN.out;have v:=q.out;rw[bR (by rw[HM.out];exact bj _)]at v;omega
   subst O;gi_wp2;go_ret;exact⟨rfl,g.out.bl⟩
structure NK(x:Nat)(dp:Nat)(p q d:Nat):Prop where
 few:p+x<=256->q=p+x/\d=dp
 many:256<p+x->256<q
 lo:p<=q
 hi:q<=p+x
 dep:d<=x
structure KB(b:Nat)(w w':World):Prop where
 k:Keeps [b] w w'
 bl:Below b w w'
theorem KB.trans{b:Nat}{w w' w'':World}(h:KB b w w')(g:KB b w' w''):KB b w w'':=⟨h.k.trans g.k,h.bl.trans g.bl⟩
theorem KB.refl(b:Nat)(w:World):KB b w w:=⟨cG _ _,bL _ _⟩
theorem QY{w w':World}{c o:Nat}{v:Value}(k:Keeps [b] w w')(h:w.cell? ⟨c,o,none⟩=some v)(hc:¬c=b):w'.cell? ⟨c,o,none⟩=some v:=k.cell (by simpa using hc) h
theorem size_any:∀(x:aU) {A:Option Addr}{m c b p:Nat}{w:World},Sl aU w [b] A m c x.l->w.cell? ⟨b,0,none⟩=some (.int .i64 (p:Int))->w.frozen? ⟨b,0,none⟩=false->p+nodes x<=100000->
 Calls prog 265 #[.agg #[x.kind,x.name,x.n,x.d,.slice A m c],.pointer (some ⟨b,0,none⟩)] w fun e w'=>∃d q:Nat,e=.returned (.int .i64 (d:Int))/\w'.cell? ⟨b,0,none⟩=some (.int .i64 (q:Int))/\w'.frozen? ⟨b,0,none⟩=false/\KB b w w'/\NK (nodes x) (iM x) p q d:=by
 intro x
 induction x using iY with
 |_ x ih=>
 intro A m c b p w hs hc hf S;refine wid ?_;have aB:=hs.small;have HM:=Hd hs.len;have R:=gV x;have Q:=IQ x;have ad:=bw w _ hc;simp only at ad;obtain⟨l,ap⟩:=aC x.l;rw[ap]at hs HM R Q ih;obtain⟨X,hX⟩:=aC (nodes x);obtain⟨D,aa⟩:=aC (iM x);obtain⟨kd,ak⟩:=aC x.kind;obtain⟨nm,an⟩:=aC x.name;obtain⟨xn,aq⟩:=aC x.n;obtain⟨xd,ao⟩:=aC x.d;rw[hX]at R S;rw[aa]at Q;rw[ak,an,aq,ao,hX,aa];have HN:=Hd2 R Q;have IH:=Hd ih;clear ap hX aa ak an aq ao ih R Q;obtain⟨f,af⟩:=aC (p+1);have aD:IntKind.i64.wrap ((p:Int)+1)=(f:Int):=by rw[cA];omega
 have I:=Hd2 af S;obtain⟨W1,aA,F1⟩:=dR ((Fr.nil w).a w [kd,nm,xn,xd,.slice A m c] 66);have az:=F1.aQ 0 4;have c1:W1.cell? ⟨b,0,none⟩=some (.int .i64 (p:Int)):=(F1.bl.cell (p:=⟨b,0,none⟩) ad).trans hc;have f1:W1.frozen? ⟨b,0,none⟩=false:=(F1.bl.frozen (p:=⟨b,0,none⟩) ad).trans hf;obtain⟨C,ac⟩:=aC (W1.setCell ⟨b,0,none⟩ (.int .i64 (f:Int)));have c2:C.cell? ⟨b,0,none⟩=some (.int .i64 (f:Int)):=by rw[<-ac];exact cZ c1
 have f2:C.frozen? ⟨b,0,none⟩=false:=by rw[<-ac];simp[go_sem,f1]
 have Z:KB b W1 C:=by rw[<-ac];exact⟨(cG _ _).setCell (p:=⟨b,0,none⟩) (.inl po) _,(bL b W1).setCell (p:=⟨b,0,none⟩) (bj b) _⟩
 have x2:=QY Z.k az pj;have K:KB b w C:=KB.trans ⟨bq F1.bl _,F1.bl.mono pj⟩ Z;by_cases hq:256<f;·have ay:(256:Int)<(f:Int):=pj;have HR:=Hd (show NK X D p f 0 from⟨fun h=>by have:=HN.a;omega,fun _=>hq,pj,by have:=HN.a;omega,pj⟩);have HW:=fB c2 f2 K;clear af S Z K hs HN;refine ent func265 ntmps265 ?_;gi_wp2;go_ret;exact⟨0,f,rfl,HW.a,HW.b,HW.v,HR.out⟩
 ·have ay:¬(256:Int)<(f:Int):=pj;have H:=Hd (hs.keep K.k);have ar:=Hd K;have Un:=h_ (KB.refl b C) c2 f2 (show NK (dh (l.take 0)) (fO (l.take 0)) f f 0 from⟨fun h=>by simp[dh,fO],fun h=>by simp[dh]at h;omega,bj _,pj,pj⟩);have Zy:=Hd x2;clear af S Z K hs hf hc;refine ent func265 ntmps265 ?_;gi_wp2;gi_loopw[4,19] (fun v0 i wr=>∃k r q:Nat,k<=m/\v0=.int .i64 (r:Int)/\i=k/\Hid (KB b C wr/\wr.cell? ⟨b,0,none⟩=some (.int .i64 (q:Int))/\wr.frozen? ⟨b,0,none⟩=false/\NK (dh (l.take k)) (fO (l.take k)) f q r)) (fun _ i _=>m-(intOf i).toNat);case atStart=>exact⟨0,0,f,cf _,rfl,rfl,Un⟩
  case round=>
   obtain⟨k,r,q,hk,rfl,rfl,j⟩:=hrel;by_cases al:k<m
   ·obtain⟨y,J⟩:=dW l k (by rw[HM.out];exact al);obtain⟨bb,o,B,n',d',rfl,⟨h0,N,h2,O,h4⟩,-,hys⟩:=(H.out.keep j.a.k).qQ J;obtain⟨V,s⟩:=aC (wr.alloc (.cells #[y.kind,y.name,y.n,y.d,.slice B n' d'] 66));have ag:b<wr.heap.size:=bw wr _ j.b;have kV:KB b wr V:=by rw[<-s];exact⟨(cG _ _).alloc _,pE.alloc (cY ag) _⟩
    have g0:V.cell? ⟨wr,0,none⟩=some (.int .i64 y.kind):=by rw[<-s];simp[go_sem]
    have g1:V.cell? ⟨wr,1,none⟩=some (.string y.name):=by rw[<-s];simp[go_sem]
    have g2:V.cell? ⟨wr,2,none⟩=some (.int .i64 y.n):=by rw[<-s];simp[go_sem]
    have g3:V.cell? ⟨wr,3,none⟩=some (.int .i64 y.d):=by rw[<-s];simp[go_sem]
    have g4:V.cell? ⟨wr,4,none⟩=some (.slice B n' d'):=by rw[<-s];simp[go_sem]
    have cV:V.cell? ⟨b,0,none⟩=some (.int .i64 (q:Int)):=by rw[<-s];exact Iz _ j.b
    have fV:V.frozen? ⟨b,0,none⟩=false:=by rw[<-s];exact IB _ j.b j.c
    have am:=bh J;have hT:=Cb J;have ab:=Cc J;have ax:=vI l (k+1);have T:=j.w;have yK:q+nodes y<=100000:=by have N:=I.a;have h2:=I.u;have O:=HN.a;have h4:=T.hi;omega
    have HC:=Hd (IH.out y am (hys.keep kV.k) cV fV yK);have av:r<=100000:=by have N:=I.u;have O:=HN.a;have h4:=T.dep;omega
    obtain⟨Y,hY⟩:=aC (nodes y);obtain⟨E,hE⟩:=aC (iM y);rw[hY,hE]at HC;rw[hY]at hT;rw[hE]at ab;have HZ:=h_ hT ab T kV;clear ag J am hT ab ax T yK hys hY hE kV cV fV
    gi_wp2_with (first
     |(refine Cl 265 HC.out ?_;rintro e w2 ⟨d2,q2,rfl,ah,ai,aj,F⟩;obtain⟨mx,ae⟩:=aC (max r d2);have HF:=Hd (show KB b C w2/\w2.cell? ⟨b,0,none⟩=some (.int .i64 (q2:Int))/\w2.frozen? ⟨b,0,none⟩=false/\NK (dh (l.take (k+1))) (fO (l.take (k+1))) f q2 mx from⟨j.a.trans (HZ.w.trans aj),ah,ai,by
        obtain⟨t1,t2,G,-⟩:=HZ.out;rw[t1,t2];subst ae;exact⟨fun h=>by have a:=G.few pj;have c:=F.few pj;omega,fun h=>by
         by_cases g:f+dh (l.take k)<=256;·have a:=G.few g;exact F.many pj
         have a:=G.many pj;have:=F.lo;omega,by have:=G.lo;have:=F.lo;omega,by have:=G.hi;have:=F.hi;omega,by have:=G.dep;have:=F.dep;omega⟩⟩)
       have au:=Hd ae;clear ah ai aj F ae)
     |fail)
    exact⟨⟨k+1,mx,q2,pj,by congr 1;have:=au.out;first|omega|(split<;>omega),by go_num,HF⟩,by simp[intOf];omega⟩
   ·have aw:k=m:=pj;clear hk al;subst aw;have av:r<=100000:=by
     have N:=I.u;have O:=HN.a;have h4:=j.w.dep;have:=vI l k;omega
    have aE:IntKind.i64.wrap ((r:Int)+1)=((r+1:Nat):Int):=by rw[cA];omega
    have HR:=Hd (show NK X D p q (r+1) by have z:=j.w;rw[bR (by rw[HM.out];exact bj _)]at z;have N:=HN.a;have h2:=HN.u;have O:=I.a;exact⟨fun h=>by have a:=z.few pj;omega,fun h=>z.many pj,by have:=z.lo;omega,by have:=z.hi;omega,by have:=z.dep;omega⟩);gi_wp2;go_ret;exact⟨r+1,q,by first|rfl|simp,j.b,j.c,ar.out.trans j.a,HR.out⟩
def jA(x:Int×Int):Bool:=decide (x.2<x.1)
def kK(w:World)(b:Nat)(ps:List (Int×Int)):Prop:=∀j x,ps[j]?=some x->w.cell? ⟨b,j*2,none⟩=some (.int .i64 x.1)/\w.cell? ⟨b,j*2+1,none⟩=some (.int .i64 x.2)
theorem kK.go{w w':World}(h:kK w b ps)(hb:Below w w w'):kK w' b ps:=fun j x hx=>by have h1:=h j x hx;have hlt:=bw w _ h1.1;exact⟨(hb.cell (p:=⟨b,j*2,none⟩) hlt).trans h1.1,(hb.cell (p:=⟨b,j*2+1,none⟩) hlt).trans h1.2⟩
theorem Gf(x y:Int)(w:World):CB 283 #[.agg #[x,y]] (.bool (jA (x,y))) w:=by
 refine wid ?_;obtain⟨W1,B,F1⟩:=dR ((Fr.nil w).a w [x,y] 298);refine op1 F1 ?_;intros;have F:=Hd F1;clear F1;cases h:jA (x,y)
 ·have d:¬y<x:=by simpa[jA]using h
  exact TT
 have d:y<x:=by simpa[jA]using h
 exact TT
theorem adT(b n c:Nat)(ps:List (Int×Int))(w:World)(hn:ps.length=n)(hm:n<=100000)(hp:kK w b ps):
 Calls prog 293 #[.slice (some ⟨b,0,none⟩) n c,.func (.func 283) #[] #[]] w fun e w'=>(∃i:Int,e=.returned i/\decide (0<=i)=ps.any jA)/\Below w w w':=by
 refine wid ?_;have H:=Hd hp;have y:=eR (P:=prog) func283 pk rfl;clear hp;refine ent func293 ntmps293 ?_;gi_wp2;gi_loopw[8] (fun i wr=>∃k:Nat,k<=n/\i=k/\Hid (Below w w wr)/\Hid ((ps.drop k).any jA=ps.any jA)) (fun i _=>n-(intOf i).toNat);case atStart=>exact⟨0,cf _,rfl,Hd pE,Hd rfl⟩
 case round=>
  obtain⟨k,B,rfl,d,s⟩:=hrel;by_cases C:k<n
  ·obtain⟨x,hx⟩:=dW ps k pj;obtain⟨j,l⟩:=x;have K:=(H.out.go d.out) k _ hx;obtain⟨V,z⟩:=K;have r:ps.drop k=(j,l)::ps.drop (k+1):=by
    obtain⟨u,e⟩:=bu.1 hx;rw[<-e];exact cL u
   have a:=s.out;rw[r,ij]at a;obtain⟨o,p⟩:=aC (jA (j,l));rw[p]at a;have q:=Hd p;have g:=Hd a;clear a p r hx;cases o
   ·gi_wp2_with (first
      |(refine Cl 283 (Gf j l _) ?_;rintro e v ⟨rfl,f⟩;rw[q.out];have HB:=Hd (d.out.trans (f.mono d.out.size));clear f)
      |fail)
    exact⟨⟨k+1,pj,by go_num,HB,Hd (by have:=g.out;rwa [jz]at this)⟩,by simp[intOf];omega⟩
   gi_wp2_with (first
    |(refine Cl 283 (Gf j l _) ?_;rintro e v ⟨rfl,f⟩;rw[q.out];have HB:=Hd (d.out.trans (f.mono d.out.size));clear f)
    |fail)
   go_ret;exact⟨⟨_,rfl,by rw[<-g.out,nB];simp⟩,HB.out⟩
  ·have a:=s.out;rw[cB pj]at a;have g:=Hd a;clear a;gi_wp2;go_ret;exact⟨⟨_,rfl,by rw[<-g.out];rfl⟩,d.out⟩
theorem EY(b n c:Nat)(ps:List (Int×Int))(w:World)(hn:ps.length=n)(hm:n<=100000)(hp:kK w b ps):
 CB 282 #[.slice (some ⟨b,0,none⟩) n c,.func (.func 283) #[] #[]] (.bool (ps.any jA)) w:=by
 refine wid ?_;have g:=Hd (adT b n c ps w hn hm hp);clear hp;refine ent func282 ntmps282 ?_
 gi_wp2_with (first
  |(refine Cl 293 g.out ?_;rintro e j ⟨⟨i,rfl,f⟩,hb1⟩;have d:=Hd2 f hb1;clear f hb1)
  |fail)
 go_ret;exact⟨by rw[<-d.a];first|rfl|simp,d.u⟩
theorem lg(b n c:Nat)(ps:List (Int×Int))(w:World)(hn:ps.length=n)(hm:n<=100000)(hp:kK w b ps):
 CB 264 #[.slice (some ⟨b,0,none⟩) n c] (.bool (!(ps.any jA))) w:=by
 refine wid ?_;have d:=Hd (EY b n c ps w hn hm hp);clear hp;refine ent func264 ntmps264 ?_
 gi_wp2_with (first
  |(refine Cl 282 d.out ?_;rintro e g ⟨rfl,a⟩;have f:=Hd a;clear a)
  |fail)
 go_ret;exact⟨by first|rfl|simp,f.out⟩
end
abbrev bT:=ByteArray×Int×Int×Int×Int×Int×Bool
abbrev bW:=ByteArray×Int×Int
abbrev bK:=Int×ByteArray×Int
abbrev dA:=ByteArray×List bK
abbrev aJ:=ByteArray×Int×Int×Int×Bool×Bool×aU×ByteArray×Int
structure aS where
 name:ByteArray
 aT:List bT
 bonus:List bW
 malus:List bW
 ties:List dA
 rounds:List aJ
 prizes:List Int
 points:List Int
 best:Int
structure dK where
 A:Option Addr
 n:Nat
 c:Nat
abbrev dK.v(s:dK):Value:=.slice s.A s.n s.c
section
variable {w w':World}{M:List Nat}{A:Option Addr}{n c k:Nat}
theorem lT{x:bT}(h:Rep.rd w M x cs):cs= [.string x.1,.int .i64 x.2.1,.int .i64 x.2.2.1,.int .i64 x.2.2.2.1,.int .i64 x.2.2.2.2.1,.int .i64 x.2.2.2.2.2.1,.bool x.2.2.2.2.2.2]/\i64 x.2.1/\i64 x.2.2.1/\i64 x.2.2.2.1/\i64 x.2.2.2.2.1/\i64 x.2.2.2.2.2.1:=by obtain⟨_,_,rfl,V,_,_,rfl,⟨rfl,e⟩,_,_,rfl,⟨rfl,i2⟩,_,_,rfl,⟨rfl,i3⟩,_,_,rfl,⟨rfl,i4⟩,_,_,rfl,⟨rfl,i5⟩,h6⟩:=h;have a:_=_:=V;have d:_=_:=h6;subst a;subst d;exact⟨rfl,e,i2,i3,i4,i5⟩
theorem aaI{x:bW}(h:Rep.rd w M x cs):cs= [.string x.1,.int .i64 x.2.1,.int .i64 x.2.2]/\i64 x.2.1/\i64 x.2.2:=by obtain⟨_,_,rfl,V,_,_,rfl,⟨rfl,d⟩,⟨rfl,i2⟩⟩:=h;have a:_=_:=V;subst a;exact⟨rfl,d,i2⟩
theorem rd_key{x:bK}(h:Rep.rd w M x cs):cs= [.int .i64 x.1,.string x.2.1,.int .i64 x.2.2]/\i64 x.1/\i64 x.2.2:=by obtain⟨_,_,rfl,⟨rfl,d⟩,_,_,rfl,h0,⟨rfl,i2⟩⟩:=h;have a:_=_:=h0;subst a;exact⟨rfl,d,i2⟩
theorem vJ{x:dA}(h:Rep.rd w M x cs):∃B m d,cs= [.string x.1,.slice B m d]/\Sl bK w M B m d x.2:=by obtain⟨_,_,rfl,V,B,m,d,rfl,hs⟩:=h;have a:_=_:=V;subst a;exact⟨B,m,d,rfl,hs⟩
abbrev au(x:aJ):aU:=x.2.2.2.2.2.2.1
theorem jg{x:aJ}(h:Rep.rd w M x cs):∃B m d,cs= [.string x.1,.int .i64 x.2.1,.int .i64 x.2.2.1,.int .i64 x.2.2.2.1,.bool x.2.2.2.2.1,.bool x.2.2.2.2.2.1,.int .i64 (au x).kind,.string (au x).name,.int .i64 (au x).n,.int .i64 (au x).d,.slice B m d,.string x.2.2.2.2.2.2.2.1,.int .i64 x.2.2.2.2.2.2.2.2]/\
 (i64 x.2.1/\i64 x.2.2.1/\i64 x.2.2.2.1/\i64 x.2.2.2.2.2.2.2.2)/\(i64 (au x).kind/\i64 (au x).n/\i64 (au x).d)/\Sl aU w M B m d (au x).l:=by
 obtain⟨_,_,rfl,V,_,_,rfl,⟨rfl,i⟩,_,_,rfl,⟨rfl,i2⟩,_,_,rfl,⟨rfl,i3⟩,_,_,rfl,h4,_,_,rfl,h5,_,_,rfl,h6,_,_,rfl,h7,⟨rfl,i8⟩⟩:=h;have a:_=_:=V;have e:_=_:=h4;have f:_=_:=h5;have g:_=_:=h7;subst a;subst e;subst f;subst g;obtain⟨B,m,d,rfl,u,hs⟩:=kH.sl h6;exact⟨B,m,d,rfl,⟨i,i2,i3,i8⟩,u,hs⟩
theorem Sl.n_{l:List dA}{x:dA}(h:Sl dA w M A n c l)(hk:l[k]?=some x):∃b o B m d,A=some ⟨b,o,none⟩/\(w.cell? ⟨b,o+k*2,none⟩=some (.string x.1)/\w.cell? ⟨b,o+k*2+1,none⟩=some (.slice B m d))/\Sl bK w M B m d x.2:=by obtain⟨b,o,f,rfl,e,a⟩:=h.get hk;obtain⟨B,m,d,rfl,hs⟩:=vJ e;exact⟨b,o,B,m,d,rfl,⟨a.2 0 _ rfl,a.2 1 _ rfl⟩,hs⟩
theorem Sl.iw{l:List aJ}{x:aJ}(h:Sl aJ w M A n c l)(hk:l[k]?=some x):∃b o B m d,A=some ⟨b,o,none⟩/\(w.cell? ⟨b,o+k*13,none⟩=some (.string x.1)/\w.cell? ⟨b,o+k*13+1,none⟩=some (.int .i64 x.2.1)/\w.cell? ⟨b,o+k*13+2,none⟩=some (.int .i64 x.2.2.1)/\w.cell? ⟨b,o+k*13+3,none⟩=some (.int .i64 x.2.2.2.1)/\w.cell? ⟨b,o+k*13+4,none⟩=some (.bool x.2.2.2.2.1)/\w.cell? ⟨b,o+k*13+5,none⟩=some (.bool x.2.2.2.2.2.1))/\
 (w.cell? ⟨b,o+k*13+6,none⟩=some (.int .i64 (au x).kind)/\w.cell? ⟨b,o+k*13+7,none⟩=some (.string (au x).name)/\w.cell? ⟨b,o+k*13+8,none⟩=some (.int .i64 (au x).n)/\w.cell? ⟨b,o+k*13+9,none⟩=some (.int .i64 (au x).d)/\w.cell? ⟨b,o+k*13+10,none⟩=some (.slice B m d))/\
 (w.cell? ⟨b,o+k*13+11,none⟩=some (.string x.2.2.2.2.2.2.2.1)/\w.cell? ⟨b,o+k*13+12,none⟩=some (.int .i64 x.2.2.2.2.2.2.2.2))/\
 (i64 x.2.1/\i64 x.2.2.1/\i64 x.2.2.2.1/\i64 x.2.2.2.2.2.2.2.2)/\(i64 (au x).kind/\i64 (au x).n/\i64 (au x).d)/\Sl aU w M B m d (au x).l:=by
 obtain⟨b,o,f,rfl,e,a⟩:=h.get hk;obtain⟨B,m,d,rfl,u,C,hs⟩:=jg e;exact⟨b,o,B,m,d,rfl,⟨a.2 0 _ rfl,a.2 1 _ rfl,a.2 2 _ rfl,a.2 3 _ rfl,a.2 4 _ rfl,a.2 5 _ rfl⟩,⟨a.2 6 _ rfl,a.2 7 _ rfl,a.2 8 _ rfl,a.2 9 _ rfl,a.2 10 _ rfl⟩,⟨a.2 11 _ rfl,a.2 12 _ rfl⟩,u,C,hs⟩
structure dG(w:World)(M:List Nat)(r:aS)(s1 s2 s3 s4 s5 s6 s7:dK):Prop where
 aT:Sl bT w M s1.A s1.n s1.c r.aT
 bonus:Sl bW w M s2.A s2.n s2.c r.bonus
 malus:Sl bW w M s3.A s3.n s3.c r.malus
 ties:Sl dA w M s4.A s4.n s4.c r.ties
 rounds:Sl aJ w M s5.A s5.n s5.c r.rounds
 prizes:Sl Int w M s6.A s6.n s6.c r.prizes
 points:Sl Int w M s7.A s7.n s7.c r.points
 best:i64 r.best
end
section
open Go.RowKit Go.Shelf
theorem Fr.only{w:World}{L':List (Nat×List Value)}(h:Fr w W L)(hs:∀x,x∈L'->x∈L):Fr w W L':=⟨h.bl,fun b vs hm=>h.at_ b vs (hs _ hm),fun b vs hm=>h.lt b vs (hs _ hm),fun b vs hm=>h.ge b vs (hs _ hm)⟩
theorem Fr.hd{w:World}{x:Nat×List Value}(h:Fr w W L)(hx:L[0]?=some x:=by exact rfl):Fr w W [x]:=h.only fun y g=>by rw[bz]at g;subst g;exact bh hx
theorem dG.go{w w':World}{M:List Nat}{r:aS}{s1 s2 s3 s4 s5 s6 s7:dK}(h:dG w M r s1 s2 s3 s4 s5 s6 s7)(hb:Below w w w'):dG w' M r s1 s2 s3 s4 s5 s6 s7:=⟨h.aT.go hb,h.bonus.go hb,h.malus.go hb,h.ties.go hb,h.rounds.go hb,h.prizes.go hb,h.points.go hb,h.best⟩
abbrev aV(r:aS)(s1 s2 s3 s4 s5 s6 s7:dK):List Value:= [r.name,.slice s1.A s1.n s1.c,.slice s2.A s2.n s2.c,.slice s3.A s3.n s3.c,.slice s4.A s4.n s4.c,.slice s5.A s5.n s5.c,.slice s6.A s6.n s6.c,.slice s7.A s7.n s7.c,r.best]
def Uo(ps:List (Int×Int)):List Value:=ps.flatMap fun x=> [Value.int .i64 x.1,Value.int .i64 x.2]
theorem Ci:∀(ps:List (Int×Int)) (j:Nat) (x:Int×Int),ps[j]?=some x->(Uo ps)[j*2]?=some (.int .i64 x.1)/\(Uo ps)[j*2+1]?=some (.int .i64 x.2)
 |y::ps,0,x,h=>by simp at h;subst h;exact⟨rfl,rfl⟩
 |y::ps,j+1,x,h=>by have ih:=Ci ps j x (by simpa using h);have e:(j+1)*2=j*2+1+1:=pj;rw[e];exact⟨ih.1,ih.2⟩
theorem w_(h:∀i u,(Uo ps)[i]?=some u->W.cell? ⟨b,i,none⟩=some u):kK W b ps:=fun j x hx=>⟨h _ _ (Ci ps j x hx).1,h _ _ (Ci ps j x hx).2⟩
def sJ(r:aS):List (Int×Int):= [((r.aT.length:Nat),64),((r.bonus.length:Nat),64),((r.malus.length:Nat),64),((r.ties.length:Nat),16),((r.rounds.length:Nat),8),((r.prizes.length:Nat),64),((r.points.length:Nat),64)]
def jY(t:dA):Bool:= !jA (((t.2.length:Nat):Int),32)
def jI(y:aJ):Bool:=decide (nodes (au y)<=256/\iM (au y)<=16)
def fD(r:aS):Bool:= !((sJ r).any jA)&&r.ties.all jY&&r.rounds.all jI
theorem iC{α:Type}{P:α->Bool}{l:List α}{k:Nat}{x:α}(h:l[k]?=some x):(l.drop k).all P=(P x&&(l.drop (k+1)).all P):=by obtain⟨r,e⟩:=bu.1 h;rw[cL r,e,List.all_cons]
theorem jr{α:Type}{P:α->Bool}{l:List α}{k:Nat}(h:l.length<=k):(l.drop k).all P=true:=by rw[cB h];rfl
theorem Fr.kb{w V:World}(h:Fr w V L)(k:KB b V W)(hb:w.heap.size<=b)(hL:∀c vs,(c,vs)∈L->c≠b):Fr w W L:=⟨h.bl.trans (k.bl.mono hb),fun c vs hm i u hu=>by have h1:=h.at_ c vs hm i u hu;have h2:=k.k.block c (h.lt c vs hm) (by simpa using hL c vs hm);exact TJ,fun c vs hm=>bX (h.lt c vs hm) k.k.size,h.ge⟩
theorem Gg{y:aJ}{q d:Nat}(h:NK (nodes (au y)) (iM (au y)) 0 q d): [((q:Int),(256:Int)),((d:Int),16)].any jA= !jI y:=by
 unfold jI jA;by_cases g:nodes (au y)<=256
 ·obtain⟨rfl,rfl⟩:=h.few pj;simp only[ij,mR,l6];by_cases e:iM (au y)<=16;·rw[cE pj,cE pj,cx ⟨g,e⟩];rfl
  have O:decide (nodes (au y)<=256/\iM (au y)<=16)=false:=cE (fun x=>e x.2);rw[O,cE pj,cx pj];rfl
 have:=h.many pj;simp only[ij,mR,l6];have O:decide (nodes (au y)<=256/\iM (au y)<=16)=false:=cE (fun x=>g x.1);rw[O,cx (show(256:Int)<(q:Int) by omega)];rfl
theorem Gh{M:List Nat}{r:aS}{s1 s2 s3 s4 s5 s6 s7:dK}{w:World}(hr:dG w M r s1 s2 s3 s4 s5 s6 s7)(hf:∀y,y∈r.rounds->nodes (au y)<=1000):
 CB 233 #[.agg (aV r s1 s2 s3 s4 s5 s6 s7).toArray] (.bool (fD r)) w:=by
 refine wid ?_;obtain⟨O,q,V⟩:=s4;obtain⟨A5,z,c5⟩:=s5;have xg:Sl dA w M O q V r.ties:=hr.ties;have xq:Sl aJ w M A5 z c5 r.rounds:=hr.rounds;have n1:=hr.aT.len;have n2:=hr.bonus.len;have n3:=hr.malus.len;have n4:=xg.len;have n5:=xq.len;have n6:=hr.prizes.len;have n7:=hr.points.len;have m4:=xg.small;have m5:=xq.small;have H:=fB xg xq hf;have HL:=Hd2 n4 n5;obtain⟨W1,aG,F1⟩:=dR ((Fr.nil w).a w (aV r s1 s2 s3 ⟨O,q,V⟩ ⟨A5,z,c5⟩ s6 s7) 28);obtain⟨W2,aH,aA,F2⟩:=fP (w:=W1) ((F1).a W1 [.int .i64 (s1.n:Int),.int .i64 64,.int .i64 (s2.n:Int),.int .i64 64,.int .i64 (s3.n:Int),.int .i64 64,.int .i64 (q:Int),.int .i64 16,.int .i64 (z:Int),.int .i64 8,.int .i64 (s6.n:Int),.int .i64 64,.int .i64 (s7.n:Int),.int .i64 64] 298);have aw:kK W2 W1.heap.size (sJ r):=by refine w_ ?_;unfold sJ;rw[n1,n2,n3,n4,n5,n6,n7];exact F2.nth 1
 obtain⟨o7,ak⟩:=aC ((sJ r).any jA);have HP:=Hd2 aw ak;have HS:=Hd (show fD r=(!o7&&r.ties.all jY&&r.rounds.all jI) by unfold fD;rw[ak]);have ao:=Hd (F2.only (L':= [(w.heap.size,aV r s1 s2 s3 ⟨O,q,V⟩ ⟨A5,z,c5⟩ s6 s7)]) (fun x hx=>by simp at hx;simp[hx]));refine op1 F1 ?_;intros;clear xg xq aw ak n1 n2 n3 n4 n5 n6 n7 hr hf F1 F2 aA;cases o7
 ·refine ent func233 ntmps233 ?_
  gi_wp2_with (first
   |(refine Cl 264 (lg _ 7 7 _ _ rfl pj HP.a) ?_;rintro e w2 ⟨rfl,hb⟩;rw[HP.u];have F3:=Hd (ao.out.go hb);have C:=F3.out;refine op1 C ?_;intros;clear hb C)
   |fail)
  gi_loopw[43] (fun i wr=>∃k:Nat,k<=q/\i=k/\Hid (Fr w wr [(w,aV r s1 s2 s3 ⟨O,q,V⟩ ⟨A5,z,c5⟩ s6 s7)])/\Hid ((r.ties.drop k).all jY=r.ties.all jY)) (fun i _=>q-(intOf i).toNat);case atStart=>exact⟨0,cf _,rfl,F3,Hd rfl⟩
  case round=>
   obtain⟨k,hk,rfl,hF,ht⟩:=hrel;have C:=hF.out;refine op1 C ?_;intros;clear C;by_cases ad:k<q
   ·obtain⟨t,al⟩:=dW r.ties k (by rw[HL.a];exact ad);have I:=iC (P:=jY) al;obtain⟨bb,o,B,J,d',rfl,⟨h0,h1⟩,hks⟩:=(H.a.go hF.out.bl).n_ al;obtain⟨ft,G⟩:=aC (jY t);rw[G,ht.out]at I;obtain⟨f,ay,Y,N⟩:=fP (w:=wr) ((hF.out).a wr [t.1,.slice B J d'] 142);obtain⟨T,az,oL,g⟩:=fP (w:=f) ((N).a f [.int .i64 (J:Int),.int .i64 32] 298);have j: [((J:Int),(32:Int))].any jA= !ft:=by rw[<-G];unfold jY;rw[hks.len];simp
    have ac:=Hd2 (show kK T f.heap.size [((J:Int),(32:Int))]from w_ (g.nth 2)) j;have s:=Hd (g.hd);refine op1 N ?_;intros;have S:=Hd I;clear al I hks G j N g Y oL;cases ft
    ·have F:=Hd (show fD r=false by rw[HS.out,S.out];simp)
     gi_wp2_with (first
      |(refine Cl 264 (lg _ 1 1 _ _ rfl pj ac.a) ?_;rintro e w4 ⟨rfl,hb⟩;rw[ac.u];have F4:=Hd (s.out.go hb);clear hb)
      |fail)
     go_ret;exact⟨by rw[F.out];first|rfl|simp,F4.out.bl⟩
    have ah:=Hd (show(r.ties.drop (k+1)).all jY=r.ties.all jY by rw[S.out];simp)
    gi_wp2_with (first
     |(refine Cl 264 (lg _ 1 1 _ _ rfl pj ac.a) ?_;rintro e w4 ⟨rfl,hb⟩;rw[ac.u];have F4:=Hd (s.out.go hb);clear hb)
     |fail)
    exact akC
   ·have aq:=Hd (show fD r=r.rounds.all jI by
      rw[HS.out,<-ht.out,jr (by rw[HL.a];omega)];rfl)
    have aE:q=k:=pj;clear hk ad;subst aE;gi_wp2;gi_loopw[58] (fun i wr=>∃k:Nat,k<=z/\i=k/\Hid (Fr w wr [(w,aV r s1 s2 s3 ⟨O,q,V⟩ ⟨A5,z,c5⟩ s6 s7)])/\Hid ((r.rounds.drop k).all jI=r.rounds.all jI)) (fun i _=>z-(intOf i).toNat);case atStart=>exact⟨0,cf _,rfl,hF,Hd rfl⟩
    case round=>
     obtain⟨k,hk,rfl,Z,hq⟩:=hrel;have C:=Z.out;refine op1 C ?_;intros;clear C;by_cases ad:k<z
     ·obtain⟨y,af⟩:=dW r.rounds k (by rw[HL.u];exact ad);have I:=iC (P:=jI) af;obtain⟨bb,o,B,J,d',rfl,⟨h0,h1,h2,h3,h4,h5⟩,⟨h6,h7,h8,h9,h10⟩,⟨h11,h12⟩,-,-,hys⟩:=(H.b.go Z.out.bl).iw af;obtain⟨ft,G⟩:=aC (jI y);rw[G,hq.out]at I;obtain⟨f,ay,Y,N⟩:=fP (w:=wr) ((Z.out).a wr [y.1,y.2.1,y.2.2.1,y.2.2.2.1,y.2.2.2.2.1,y.2.2.2.2.2.1,(au y).kind,(au y).name,(au y).n,(au y).d,.slice B J d',y.2.2.2.2.2.2.2.1,y.2.2.2.2.2.2.2.2] 68);obtain⟨T,az,oL,g⟩:=fP (w:=f) ((N).a0 f 3);have ae:wr.heap.size<=f.heap.size:=Y.size;have aI:=g.aQ 2 0;have aK:=g.zN 2 0;obtain⟨U,hU⟩:=aC (T.setCell ⟨f,0,none⟩ (.int .i64 0));have kU:KB f.heap.size T U:=by rw[<-hU];exact⟨(cG _ _).setCell (p:=⟨f,0,none⟩) (.inl po) _,(bL _ T).setCell (p:=⟨f,0,none⟩) pD _⟩
      have aD:U.cell? ⟨f,0,none⟩=some (.int .i64 0):=by rw[<-hU];exact cZ (g.aQ 2 0)
      have ar:U.frozen? ⟨f,0,none⟩=false:=by rw[<-hU];simp[go_sem,g.zN 2 0]
      have ax:Sl aU U [f.heap.size] B J d' (au y).l:=((((hys.less (M':= []) pH).more ae).go Y).go oL).keep kU.k;have an:=Hd (size_any (au y) (p:=0) ax aD ar (by have:=H.v y (bh af);omega));have av:w.heap.size<f.heap.size:=bX (Z.out.mJ 0) ae;have s:=Hd2 (g.hd.kb kU pj (fun c vs D=>by simp at D;omega)) (And.intro (g.gen 2) av);have am:Fr w U [(wr.heap.size,_)]:=(Fr.only g (L':= [(wr.heap.size,_)]) (fun x hx=>by rw[bz]at hx;subst hx;exact bh (i:=1) rfl)).kb kU pj (fun c vs D=>by rw[bz]at D;obtain⟨rfl,-⟩:=me D;have:wr.heap.size<f.heap.size:=(N.mJ 1);omega);have S:=Hd I;have ap:=Hd G;have aF:=Hd ae;refine op1 am ?_;intros;clear af I hys G N g am kU Y oL ae ar ax av;cases ft
      ·have F:=Hd (show fD r=false by rw[aq.out,S.out];simp)
       gi_wp2_with (first
       |(refine Cl 264 (lg _ 2 2 _ _ rfl pj R.a) ?_;rintro e w4 ⟨rfl,hb⟩;rw[R.u];have F4:=Hd (ag.out.go hb);clear hb)
       |(refine Cl 265 an.out ?_;rintro e K ⟨X,q3,rfl,aB,aj,aa,ab⟩;have Q:=s.a.kb aa s.b (fun c vs D=>by simp at D;have:=s.v;omega);obtain⟨V3,JM,ai,E⟩:=fP (w:=K) ((Q).a K [.int .i64 (q3:Int),.int .i64 256,.int .i64 (X:Int),.int .i64 16] 298);have j:=Gg ab;rw[ap.out]at j;have R:=Hd2 (show kK V3 K.heap.size [((q3:Int),(256:Int)),((X:Int),16)]from w_ (E.nth 1)) j;have ag:=Hd E.hd;clear aa ab aj j Q E ai)
       |fail)
       go_ret;exact⟨by rw[F.out];first|rfl|simp,F4.out.bl⟩
      have ah:=Hd (show(r.rounds.drop (k+1)).all jI=r.rounds.all jI by rw[S.out];simp)
      gi_wp2_with (first
      |(refine Cl 264 (lg _ 2 2 _ _ rfl pj R.a) ?_;rintro e w4 ⟨rfl,hb⟩;rw[R.u];have F4:=Hd (ag.out.go hb);clear hb)
      |(refine Cl 265 an.out ?_;rintro e K ⟨X,q3,rfl,aB,aj,aa,ab⟩;have Q:=s.a.kb aa s.b (fun c vs D=>by simp at D;have:=s.v;omega);obtain⟨V3,JM,ai,E⟩:=fP (w:=K) ((Q).a K [.int .i64 (q3:Int),.int .i64 256,.int .i64 (X:Int),.int .i64 16] 298);have j:=Gg ab;rw[ap.out]at j;have R:=Hd2 (show kK V3 K.heap.size [((q3:Int),(256:Int)),((X:Int),16)]from w_ (E.nth 1)) j;have ag:=Hd E.hd;clear aa ab aj j Q E ai)
      |fail)
      exact akC
     ·have F:=Hd (show fD r=true by rw[aq.out,<-hq.out,jr (by rw[HL.u];omega)]);gi_wp2;go_ret;exact⟨by rw[F.out];first|rfl|simp,Z.out.bl⟩
 ·have F:=Hd (show fD r=false by rw[HS.out];rfl);refine ent func233 ntmps233 ?_
  gi_wp2_with (first
   |(refine Cl 264 (lg _ 7 7 _ _ rfl pj HP.a) ?_;rintro e w2 ⟨rfl,hb⟩;rw[HP.u];have F3:=Hd (ao.out.go hb);clear hb)
   |fail)
  go_ret;exact⟨by rw[F.out];first|rfl|simp,F3.out.bl⟩
end
