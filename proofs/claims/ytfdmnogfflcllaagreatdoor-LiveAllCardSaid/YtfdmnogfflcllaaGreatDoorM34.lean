/- Lemmas -/
import Derived.Test.YtfdmnogfflcllaaGreatDoorM32
set_option linter.all false
set_option maxRecDepth 100000
set_option maxHeartbeats 0
namespace Go.Proofs.YtfdmnogfflcllaaGreatDoor
open Go.Proofs.Tryz Go.RowKit Go.Shelf
variable {xs:List (List Int)}{k:Nat}{s:dK}{o o':Option Nat}
instance:Rep dK where
 sz:=1
 rd _ _ x cs:=cs= [x.v]
 len h:=by rw[h];rfl
 keep h _:=h
 less h _:=h
 more h _:=h
instance:kE dK:=⟨pt⟩
instance:kJ dK:=⟨by rintro w M x cs h u hu;have h:cs=_:=h;subst h;simp at hu;subst hu;rfl⟩
section
variable {w:World}{M:List Nat}{A:Option Addr}{n c:Nat}
def afe(w:World)(M:List Nat)(hs:List dK)(xs:List (List Int)):Prop:=hs.length=xs.length/\∀(i:Nat) (h:dK) (l:List Int),hs[i]?=some h->xs[i]?=some l->Sl Int w M h.A h.n h.c l
theorem Sl.hd(h:Sl (List Int) w M A n c xs):∃hs,Sl dK w M A n c hs/\afe w M hs xs:=by
 have y:∀k,∃s:dK,∀l,xs[k]?=some l->(∃b o,A=some ⟨b,o,none⟩/\wR w M b (o+k) [s.v])/\Sl Int w M s.A s.n s.c l:=by
  intro k
  cases e:xs[k]? with
  |none=>exact⟨⟨none,0,0⟩,fun l a=>by cases a⟩
  |some l=>obtain⟨b,o,G,rfl,⟨t,n',u,rfl,m⟩,d⟩:=h.get e;refine⟨⟨t,n',u⟩,fun J a=>?_⟩;cases a;exact⟨⟨b,o,rfl,by rwa [show Rep.sz (List Int)=1 from rfl,gP]at d⟩,m⟩
 obtain⟨f,p⟩:=Classical.axiomOfChoice y;have q:∀k s,((List.range n).map f)[k]?=some s->k<n/\s=f k:=fun k s g=>by rw[cM]at g;obtain⟨j,C,rfl⟩:=Option.map_eq_some_iff.1 g;obtain⟨m,d⟩:=bu.1 C;rw[List.getElem_range]at d;subst d;exact⟨by simpa using m,rfl⟩
 refine⟨(List.range n).map f,⟨po,h.cap,h.room,h.small,?_⟩,by simp[h.len],fun i s l z a=>?_⟩
 ·by_cases V:xs= []
  ·left;have:n=0:=by rw[<-h.len,V];rfl
   simp[this]
  right;obtain⟨E,D⟩:=dW xs 0 (fL.2 V);obtain⟨⟨b,o,rfl,-⟩,-⟩:=p 0 E D;refine⟨b,o,rfl,fun k s g=>?_⟩;obtain⟨B,rfl⟩:=q k s g;obtain⟨l,a⟩:=dW xs k (by rw[h.len];exact B);obtain⟨⟨F,o',e,I⟩,-⟩:=p k l a;cases e;exact⟨[(f k).v],rfl,by rwa [show Rep.sz dK=1 from rfl,gP]⟩
 obtain⟨-,rfl⟩:=q i s z;exact(p i l a).2
theorem Sl.agk{hs:List dK}(h:Sl dK w M A n c hs)(g:afe w M hs xs):Sl (List Int) w M A n c xs:=by
 refine⟨by rw[<-g.1];exact h.len,h.cap,h.room,h.small,?_⟩;rcases h.at_ with V|⟨b,o,rfl,i⟩;·left;exact de.1 (by rw[<-g.1,V];rfl)
 refine .inr ⟨b,o,rfl,fun k l d=>?_⟩;obtain⟨s,e⟩:=dW hs k (by rw[g.1];exact(bu.1 d).1);obtain⟨f,a,T⟩:=i k s e;have a:f=_:=a;subst a;exact⟨[s.v],⟨s.A,s.n,s.c,rfl,g.2 k s l e d⟩,by rwa [show Rep.sz dK=Rep.sz (List Int)from rfl]at T⟩
theorem Sl.hdat{hs:List dK}(h:Sl dK w M A n c hs)(hk:hs[k]?=some s):∃b o,A=some ⟨b,o,none⟩/\w.cell? ⟨b,o+k,none⟩=some s.v:=by obtain⟨b,o,d,rfl,a,e⟩:=h.get hk;have a:d=_:=a;subst a;exact⟨b,o,rfl,by have:=e.c0 rfl;rwa [show Rep.sz dK=1 from rfl,gP]at this⟩
end
def plI(q:Nat×Nat):Int×Int:=((q.1:Int),(q.2:Int))
theorem agl{w:World}{M:List Nat}{x:Int×Int}{cs:List Value}(h:Rep.rd w M x cs):cs= [.int .i64 x.1,.int .i64 x.2]:=by obtain⟨_,_,rfl,⟨rfl,-⟩,⟨rfl,-⟩⟩:=h;rfl
structure aM(W:World)(N:List Nat)(hs:List dK)(x:List (List Int)):Prop where
 len:hs.length=x.length
 row:∀(i:Nat) (h:dK) (l:List Int),hs[i]?=some h->x[i]?=some l->∃b,h.A=some ⟨b,0,none⟩/\b∈N/\h.n=l.length/\h.n<=h.c/\jG h.c/\h.n<=1000/\∀(k:Nat) (m:Int),l[k]?=some m->W.cell? ⟨b,k,none⟩=some (.int .i64 m)/\W.frozen? ⟨b,k,none⟩=false/\i64 m
 dis:∀(i j:Nat) (h h':dK) (b:Nat),hs[i]?=some h->hs[j]?=some h'->h.A=some ⟨b,0,none⟩->h'.A=some ⟨b,0,none⟩->i=j
section
variable {W W':World}{M N:List Nat}{hs:List dK}{x:List (List Int)}
theorem aM.rows(h:aM W N hs x):afe W [] hs x:=by
 refine⟨h.len,fun i s l e f=>?_⟩;obtain⟨b,g,hb,t,K,q,v,d⟩:=h.row i s l e f;refine⟨t.symm,K,q,pj,.inr ⟨b,0,g,fun k m a=>⟨[m],⟨rfl,(d k m a).2.2⟩,po,fun j u p=>?_⟩⟩⟩
 match j,p with
 |0,p=>cases p;have:=(d k m a).1;simpa[show Rep.sz Int=1 from rfl]using this
theorem aM.turn(h:aM W N hs x)(hk:∀b,b∈N->W'.heap[b]?=W.heap[b]?):aM W' N hs x:=by refine⟨h.len,fun i s l f g=>?_,h.dis⟩;obtain⟨b,j,hb,u,K,p,q,v⟩:=h.row i s l f g;refine⟨b,j,hb,u,K,p,q,fun k m t=>?_⟩;obtain⟨D,d,e⟩:=v k m t;have a:=hk b hb;exact⟨by rw[<-D];simp only[World.cell?,a],by rw[<-d];simp only[World.frozen?,a],e⟩
theorem aM.put{i b:Nat}{m:Int}{l:List Int}(h:aM W N hs x)(h1:hs[i]?=some s)(hA:s.A=some ⟨b,0,none⟩)(h2:x[i]?=some l)(hk:k<l.length)(hm:i64 m):aM (W.setCell ⟨b,k,none⟩ m) N hs (aak x (i,k) m):=by
 have J:∀j,(aak x (i,k) m)[j]?=if i=j then some (l.set k m)else x[j]?:=fun j=>by
  unfold aak;rw[show x.getD (i,k).1 []=l by rw[cC,h2];rfl];have I:=(bu.1 h2).1;rw[List.getElem?_set];by_cases e:i=j;·subst e;simp[I]
  simp[e]
 refine⟨by rw[aaQ];exact h.len,fun j B P D a=>?_,h.dis⟩;rw[J]at a;by_cases e:i=j
 ·subst e;rw[if_pos rfl]at a;cases a;rw[h1]at D;cases D;obtain⟨t,d,hb,z,K,u,v,p⟩:=h.row i s l h1 h2;rw[hA]at d;cases d;refine⟨b,hA,hb,by rw[fR];exact z,K,u,v,fun q y g=>?_⟩;rw[World.frozen?_setCell];by_cases O:k=q;·subst O;rw[gl hk]at g;cases g;obtain⟨D,a,f⟩:=p k _ (cd hk);exact⟨cZ D,a,hm⟩
  rw[gj O]at g;obtain⟨D,a,f⟩:=p q y g;exact⟨by rw[World.cell?_setCell_other _ _ _ _ (by simp<;>exact O)];exact D,a,f⟩
 rw[if_neg e]at a;obtain⟨t,d,hb,z,K,u,v,p⟩:=h.row j B P D a;refine⟨t,d,hb,z,K,u,v,fun q y g=>?_⟩;obtain⟨f,E,F⟩:=p q y g;have G:b≠t:=fun C=>by subst C;exact e (h.dis i j s B b h1 D hA d)
 exact⟨by rw[World.cell?_setCell_other _ _ _ _ (by simp[G])];exact f,by rw[World.frozen?_setCell];exact E,F⟩
end
structure ItS(w0:World)(M N:List Nat)(bm bf bv br:Nat)(s1 H t2 t3 t4:dK)(Am:Option Addr)(nm cm:Nat)(hs:List dK)(r:aS)(L:List (Nat×Nat)):Prop where
 m0:w0.cell? ⟨bm,0,none⟩=some (.slice Am nm cm)
 pl:Sl (Int×Int) w0 M Am nm cm (L.map plI)
 f0:w0.cell? ⟨bf,0,none⟩=some H.v
 f1:w0.cell? ⟨bf,1,none⟩=some t2.v
 f2:w0.cell? ⟨bf,2,none⟩=some t3.v
 f3:w0.cell? ⟨bf,3,none⟩=some t4.v
 v1:w0.cell? ⟨bv,1,none⟩=some s1.v
 cr:Sl bT w0 M s1.A s1.n s1.c r.aT
 rc:w0.cell? ⟨br,0,none⟩=some (.func (.func 121) #[] #[.pointer (some ⟨bm,0,none⟩),.pointer (some ⟨bf,0,none⟩),.pointer (some ⟨bv,0,none⟩),.pointer (some ⟨br,0,none⟩)])
 hd:Sl dK w0 M H.A H.n H.c hs
 nb:bm∉M/\bf∉M/\bv∉M/\br∉M
 NM:∀q,q∈N->q∈M
 nl:∀q,q∈N->q<w0.heap.size
theorem ItS.keep{w0 w1:World}{M N:List Nat}{bm bf bv br:Nat}{s1 H t2 t3 t4:dK}{Am:Option Addr}{nm cm:Nat}{hs:List dK}{r:aS}{L:List (Nat×Nat)}(h:ItS w0 M N bm bf bv br s1 H t2 t3 t4 Am nm cm hs r L)(k:Keeps M w0 w1):ItS w1 M N bm bf bv br s1 H t2 t3 t4 Am nm cm hs r L:=⟨k.cell h.nb.1 h.m0,h.pl.keep k,k.cell h.nb.2.1 h.f0,k.cell h.nb.2.1 h.f1,k.cell h.nb.2.1 h.f2,k.cell h.nb.2.1 h.f3,k.cell h.nb.2.2.1 h.v1,h.cr.keep k,k.cell h.nb.2.2.2 h.rc,h.hd.keep k,h.nb,h.NM,fun q hq=>bX (h.nl q hq) k.size⟩
def ShM(L:List (Nat×Nat))(nc:Nat)(x:List (List Int)):Prop:=∀q,q∈L->q.1<nc/\∃l,x[q.1]?=some l/\q.2<l.length
theorem ShM.ag{L L':List (Nat×Nat)}{nc:Nat}{x y:List (List Int)}(h:ShM L nc x)(g:AgM L' x y):ShM L nc y:=fun q hq=>by obtain⟨h0,l,h1,h2⟩:=h q hq;have hl:=(bu.1 h1).1;have hy:y[q.1]?=some (y[q.1]'(by rw[<-g.len];exact hl)):=cd _;have hr:=g.row q.1;rw[cC,cC,h1,hy,eK,eK]at hr;exact⟨h0,_,hy,by rw[<-hr];exact h2⟩
theorem az.ahl{M Mc N:List Nat}{w0 V V':World}(t:az (N++Mc) o o' V V')(k:Keeps M w0 V)(hN:∀q,q∈N->q∈M)(hMc:∀q,q∈Mc->q∈M)(ho:∀q,o=some q->w0.heap.size<=q):Keeps M w0 V':=⟨cF k.size t.size,fun q hq hm=>(t.block q (bX hq k.size) (fun h=>by
  rcases cK.1 h with h|h;·exact hm (hN q h)
  exact hm (hMc q h)) (fun e=>by have:=ho q e;omega)).trans (k.block q hq hm)⟩
section
attribute [local go_sem] cX
theorem adA{c:bT}(h:rC c){j:Nat}(hj:j<(af c).length):(af c)[j]?=some (c.2.1+c.2.2.2.1*(j:Int))/\c.2.1+c.2.2.2.1*(j:Int)<=c.2.2.1/\0<=c.2.1+c.2.2.2.1*(j:Int):=by
 have b:(af c)[j]?=some (c.2.1+c.2.2.2.1*(j:Int)):=by unfold af at hj |-;rw[ck,gh]at hj;rw[cM,ik hj];rfl
 refine⟨b,?_⟩;have a:=(acP h).1 (bh b);unfold Nv rX at a;rw[eW]at a;have:=h.1;exact⟨a.2.1,by have:=a.1;simp only at this;omega⟩
theorem abY{c:bT}(h:rC c):c.2.2.1<c.2.1+c.2.2.2.1*(((af c).length:Nat):Int)/\c.2.1+c.2.2.2.1*(((af c).length:Nat):Int)<=2000/\c.2.2.2.1<=1000:=by
 have e:=(aaT h).1;obtain⟨j,l,m,F,f,-⟩:=h;rw[eO pj]at e;have d:c.2.2.2.1*((c.2.2.1-c.2.1)/c.2.2.2.1)=c.2.2.1-c.2.1:=by have:=Int.mul_ediv_add_emod (c.2.2.1-c.2.1) c.2.2.2.1;rw[kO pj]at f;omega
 have O:c.2.2.2.1*(((af c).length:Nat):Int)=c.2.2.2.1*((c.2.2.1-c.2.1)/c.2.2.2.1)+c.2.2.2.1:=by rw[e,mj,Int.mul_one]
 have i:c.2.2.2.1<=c.2.2.1-c.2.1:=by
  have g:1<=(c.2.2.1-c.2.1)/c.2.2.2.1:=by
   by_cases V:(c.2.2.1-c.2.1)/c.2.2.2.1=0;·rw[V,Int.mul_zero]at d;omega
   have:=oX (a:=c.2.2.1-c.2.1) (b:=c.2.2.2.1) pj pj;omega
  have:=js g (show 0<=c.2.2.2.1 by omega);omega
 omega
theorem az.cell{M:List Nat}{o o':Option Nat}{w w':World}{p:Addr}{v:Value}(h:az M o o' w w')(hp:w.cell? p=some v)(hm:p.block∉M)(ho:o≠some p.block):w'.cell? p=some v:=by rw[eZ (w:=w) (h.block p.block (bw w p hp) hm ho)];exact hp
theorem az.mono{M M':List Nat}{w w':World}(h:az M o o' w w')(hm:∀q,q∈M->q∈M'):az M' o o' w w':=⟨h.size,fun q hq hn ho=>h.block q hq (fun e=>hn (hm q e)) ho,h.own⟩
theorem aM.aiD{W W':World}{M N:List Nat}{hs:List dK}{x:List (List Int)}(h:aM W N hs x)(t:az M o o' W W')(hN:∀q,q∈N->q∉M/\q<W.heap.size/\o≠some q):aM W' N hs x:=h.turn fun b hb=>t.block b (hN b hb).2.1 (hN b hb).1 (hN b hb).2.2
section
variable {w0:World}{Mc N:List Nat}{bm bf bv br:Nat}{s1 H t2 t3 t4:dK}{Am:Option Addr}{nm cm:Nat}{hs:List dK}{r:aS}{L:List (Nat×Nat)}
theorem afg(hI:ItS w0 (N++Mc) N bm bf bv br s1 H t2 t3 t4 Am nm cm hs r L)(hNM:∀q,q∈N->q∉Mc)(XP:∀q,q∈Mc->q<w0.heap.size)(hok:∀x,x∈r.aT->rC x){l:Nat}(J:List (List (List Int))->Option Nat->World->Prop)
 (hJn:∀r o W W',J r o W->KpO N W W'->J r o W') (hJo:∀r k W,J r (some k) W->w0.heap.size<=k/\k<W.heap.size)
 (mO:∀x rest o W1,aM W1 N hs x/\Keeps (N++Mc) w0 W1->J (x::rest) o W1->YieldAt Wd 8 prog l #[.agg (dI H t2 t3 t4).toArray] W1 fun e W2=>e=.returned (.bool true)/\∃o',J rest o' W2/\az Mc o o' W1 W2):
 ∀(L':List (Nat×Nat)) (n:Nat) (x:List (List Int)) (rest:List (List (List Int))) (o:Option Nat) (W:World),L.drop n=L'->n<=L.length->J (comps r.aT L' x++rest) o W->Keeps (N++Mc) w0 W->aM W N hs x->ShM L' r.aT.length x->Calls prog 121 #[n,.func (.yield l) #[] #[],.pointer (some ⟨bm,0,none⟩),.pointer (some ⟨bf,0,none⟩),.pointer (some ⟨bv,0,none⟩),.pointer (some ⟨br,0,none⟩)] W fun e W'=>
   e=.returned (.bool true)/\∃o' x',J rest o' W'/\aM W' N hs x'/\AgM L' x x'/\az (N++Mc) o o' W W':=by
 obtain⟨A1,q1,d1⟩:=s1;obtain⟨A2,q2,d2⟩:=H;intro L'
 induction L' with
 |nil=>
  intro n x rest o W hd hn C B hx T;refine pd (n:=9) |>.1 ?_;have aG:L.length=nm:=by have:=hI.pl.len;rwa [ck]at this
  have aK:n=nm:=by have:=gT List.length hd;rw[eJ,gD]at this;omega
  subst aK;have f:=hI.keep B;have aB:=f.pl.small;have e0:=f.m0;have e1:=f.f0;have e2:=f.f1;have e3:=f.f2;have e4:=f.f3;obtain⟨fn,bc,aU,aV,hy,S⟩:=mO x rest o W ⟨hx,B⟩ (by rw[comps,List.singleton_append]at C;exact C);have HR:=Hd (Ja (m':=8) S);have HF:=Hd (show ∀o' W',J rest o' W'->az Mc o o' W W'->∃o' x',J rest o' W'/\aM W' N hs x'/\AgM [] x x'/\az (N++Mc) o o' W W' from fun o' W' h1 O=>⟨o',x,h1,hx.aiD O (fun q t=>⟨hNM q t,bX (hI.nl q t) B.size,fun e=>by subst e;have:=(hJo _ _ _ C).1;have:=hI.nl q t;omega⟩),AgM.refl _ _,O.mono (fun q t=>cP _ t)⟩);simp only[dI,dK.v,List.append_eq,d_,df]at hy e1 e2 e3 e4;clear hI f mO S hJn hJo C B hx T hd;refine ent func121 ntmps121 ?_
  gi_wp2_with (first
   |(refine HR.out.mono ?_;rintro e W3 ⟨rfl,o',h3,h4⟩;have I:=Hd (HF.out _ _ h3 h4);clear h3 h4)
   |fail)
  go_ret;exact⟨rfl,I.out⟩
 |cons q L'' ih=>
  intro n x rest o W hd hn C B hx T;refine pd (n:=9) |>.1 ?_;have aG:L.length=nm:=by have:=hI.pl.len;rwa [ck]at this
  have aj:n<L.length:=by have:=gT List.length hd;rw[eJ,eh]at this;omega
  have ap:L[n]?=some q/\L.drop (n+1)=L'':=by have h:=cL aj;rw[hd]at h;injection h with h1 O;exact⟨by rw[h1];exact cd aj,O.symm⟩
  have f:=hI.keep B;have aB:=f.pl.small;have e0:=f.m0;have Z:=f.v1;simp only[dK.v]at Z;obtain⟨b,ob,es,rfl,p1,p2⟩:=f.pl.get (show(L.map plI)[n]?=some (plI q) by rw[cM,ap.1];rfl);obtain rfl:=agl p1;have y0:W.cell? ⟨b,ob+n*2,none⟩=some (.int .i64 q.1):=p2.2 0 _ rfl;have y1:W.cell? ⟨b,ob+n*2+1,none⟩=some (.int .i64 q.2):=p2.2 1 _ rfl;obtain⟨aL,lq,aI,a7⟩:=T q cw;obtain⟨c,hc⟩:=dW r.aT q.1 aL;obtain⟨b3,o3,rfl,v0,v1,v2,v3,v4,v5,v6⟩:=f.cr.IU hc;have aR:q1<4611686018427387904:=by have:=f.cr.small;simp only at this;omega
  have a6:q.1<q1:=by have:=f.cr.len;simp only at this;omega
  have au:r.aT.getD q.1 aD=c:=by rw[cC,hc];rfl
  obtain⟨W',aZ,G⟩:=dR ((Fr.nil W).a W [q.1,q.2] 173);have E:=fun(p:Addr) (v:Value) (g:W.cell? p=some v)=>(G.bl.cell (bw W p g)).trans g;replace Z:=E _ _ Z;replace v0:=E _ _ v0;replace v1:=E _ _ v1;replace v2:=E _ _ v2;replace v3:=E _ _ v3;replace v4:=E _ _ v4;replace v5:=E _ _ v5;replace v6:=E _ _ v6;have o0:=aW G;obtain⟨W1,aF,F1⟩:=dR (G.a W' (DY c) 59);have F:=aW F1;clear E;have aO:=Hd G;have X:=Hd F1;have ab:=hok c (bh hc);have aE:=ab;obtain⟨c1,c2,c3,c4,-⟩:=aE;have HC:=fB ab (abY ab) au;have HI:=Hd hI;have hT:az (N++Mc) o o W W1:=az.of_below F1.bl _ _;have HT:=Hd hT;have aa:∀k,W.heap.size<=k->k∉N++Mc/\o≠some k:=fun k a4=>by
   have a9:=B.size;refine⟨fun D=>?_,fun e=>?_⟩
   ·rcases cK.1 D with D|D;·have:=hI.nl k D;omega
    have:=XP k D;omega
   subst e;have:=(hJo _ _ _ C).2;omega
  have aA:W.heap.size<=W'.heap.size:=G.bl.size;have z:=Zw (B.trans (bq F1.bl _)) (show ∀k,o=some k->w0.heap.size<=k from fun k e=>by subst e;exact(hJo _ _ _ C).1) (aa W.heap.size pD).1 (aa W.heap.size pD).2 (aa W'.heap.size aA).1 (aa W'.heap.size aA).2;have HW:=Hd2 (show J ((af c).flatMap (fun m=>comps r.aT L'' (aak x q m))++rest) o W1 by rw[comps,au]at C;exact hJn _ _ _ _ C (KpO.of_below F1.bl _)) (hx.turn (fun b hb=>F1.bl.block b (bX (hI.nl b hb) B.size)));have HJ:=Hd2 T ap.2;have IH:=Hd ih;clear hI f mO C B hx T hd p1 p2 ih ab;simp only[DY]at aF F;have a5:((n:Int)==(nm:Int))=false:=cU.2 pj;clear G F1;refine ent func121 ntmps121 ?_;gi_wp2;clear o0 F Z v0 v1 v2 v3 v4 v5 v6 y0 y1 e0;gi_loopw[11] (fun i wr=>∃j:Nat,∃o':Option Nat,∃x':List (List Int),j<=(af c).length/\i=.int .i64 (c.2.1+c.2.2.2.1*(j:Int))/\Hid (J (((af c).drop j).flatMap (fun m=>comps r.aT L'' (aak x q m))++rest) o' wr)/\Hid (aM wr N hs x'/\AgM (q::L'') x x'/\az (N++Mc) o o' W1 wr)) (fun i _=>(c.2.2.1+1-intOf i).toNat);case atStart=>exact⟨0,o,x,cf _,po,Hd (by rw[fi];exact HW.a),Hd ⟨HW.u,AgM.refl _ _,az.refl _ _ _⟩⟩
  case round=>
   obtain⟨j,F,V,C,rfl,hJ,S⟩:=hrel;have ad:Keeps (N++Mc) w0 wr:=S.v.ahl z.a (fun q t=>di _ t) (fun q t=>cP _ t) z.b;have g0:wr.cell? ⟨W,0,none⟩=some (.int .i64 q.1):=S.v.cell (X.out.aQ 0 0) z.c z.d;have g1:wr.cell? ⟨W,1,none⟩=some (.int .i64 q.2):=S.v.cell (X.out.aQ 0 1) z.c z.d;have g2:wr.cell? ⟨W',2,none⟩=some (.int .i64 c.2.2.1):=S.v.cell (X.out.aQ 1 2) z.e z.y;by_cases aH:j<(af c).length
   ·obtain⟨a1,a2,a3⟩:=adA HC.a aH;obtain⟨m,D⟩:=aC (c.2.1+c.2.2.2.1*(j:Int));rw[D]at a1 a2 a3 |-;have P:=HI.out.keep ad;have f0:=P.f0;have fr:=P.rc;obtain⟨s,R⟩:=dW hs q.1 (by rw[S.a.len,<-S.b.len];exact(bu.1 aI).1);obtain⟨-,l1,ai,aw⟩:=(HJ.out.1.ag S.b) q cw;obtain⟨b0,eA,aq,aJ,ar,al,av,ax⟩:=S.a.row _ _ _ R ai;obtain⟨SA,sn,sc⟩:=s;simp only at eA aJ ar al av;subst eA;obtain⟨b2,o2,rfl,z0⟩:=P.hd.hdat R;simp only[dK.v]at f0 z0;have a0:q.1<q2:=by have h1:=(bu.1 R).1;have O:=P.hd.len;simp only at O;omega
    have IV:q2<=140737488355328:=P.hd.small;obtain⟨z1,z2,-⟩:=ax q.2 _ (cd aw);have a8:q.2<sn:=pj;have u0:=ah f0;have u1:=ah g0;have u2:=ah g1;have u3:=ah z0;have u4:=ah z1;clear g0 g1 z0 f0;gi_wp2;refine aP [] 10 pk pk ?_;refine ay 0 ?_;refine ay 1 ?_;refine ay 2 ?_;refine ay 3 ?_;refine ay 4 ?_;refine ay 5 ?_;refine ay 6 ?_;refine ay 7 ?_;refine ay 8 ?_;refine ay 9 ?_;refine FN 1 pk rfl ?_;refine jW fun K hK K' aY=>?_;gi_wp2;refine et _ ?_;simp only[cu];obtain⟨Q,Y⟩:=aC (wr.setCell ⟨b0,q.2,none⟩ m).drew;rw[Y];have ac:KpO N wr Q:=by rw[<-Y];exact((KpO.refl N wr).setCell (.inl aq) _).drew
    have ae:Keeps (N++Mc) w0 Q:=ad.trans (ac.k.mono (fun q t=>di _ t));have ao:aM Q N hs (aak V q m):=by rw[<-Y];exact(S.a.put (i:=q.1) (k:=q.2) R rfl ai aw pA).turn (fun _ _=>rfl)
    have am:ShM L'' r.aT.length (aak V q m):=fun p hp=>((HJ.out.1.ag S.b).ag (adY (L:=q::L'') (m:=m) cw)) p (bE _ hp);have an:J (comps r.aT L'' (aak V q m)++(((af c).drop (j+1)).flatMap (fun m=>comps r.aT L'' (aak x q m))++rest)) F Q:=by have h:=hJ.out;obtain⟨hi,e⟩:=bu.1 a1;rw[cL hi,e,jb,dz,adt S.b.put]at h;exact hJn _ _ _ _ h ac
    have aX:=(HI.out.keep ae).rc;have ba:IntKind.i64.wrap ((n:Int)+1)=((n+1:Nat):Int):=by rw[cA];omega
    have bb:=HC.out.2.1.2.2;have a_:IntKind.i64.wrap (m+c.2.2.2.1)=m+c.2.2.2.1:=by rw[cA];omega
    have HX:=Hd (IH.out (n+1) (aak V q m) _ F Q HJ.out.2 aj an ae ao am);have ak:=Hd2 (S.v.trans (az.aff (ac.k.mono (fun q t=>di _ t)) F)) (S.b.trans (adY (m:=m) cw));clear Y ac ae ao am an ad P hJ S u0 u1 u2 u3 u4 z1 z2 g2 ax av ar al aq R ai
    gi_wp2_with (first
     |(refine Cl 121 HX.out ?_;rintro e W5 ⟨rfl,aN,x2,k1,k2,k3,k4⟩;have HY:=h_ k1 k2 k3 (ak.a.trans k4);have z5:W5.cell? ⟨W',3,none⟩=some (.int .i64 c.2.2.2.1):=HY.w.cell (X.out.aQ 1 3) z.e z.y;clear k1 k2 k3 k4)
     |fail)
    exact⟨⟨j+1,aN,x2,pj,by rw[<-D];simp[mj,Int.add_assoc],Hd HY.a,Hd ⟨HY.b,ak.u.trans (HY.c.mono fun p hp=>bE _ hp),HY.w⟩⟩,by simp[intOf];omega⟩
   ·obtain rfl:j=(af c).length:=pj;have a1:=HC.out.2.1.1;obtain⟨m,D⟩:=aC (c.2.1+c.2.2.2.1*(((af c).length:Nat):Int));rw[D]at a1 |-;have I:=Hd2 (show J rest F wr by have h:=hJ.out;rwa [cB pD,List.flatMap_nil,df]at h) S;clear hJ S g0 g1;gi_wp2;go_ret;exact⟨rfl,F,V,I.a,I.u.a,I.u.b,HT.out.trans I.u.v⟩
end
section
variable {w0:World}{Mc N:List Nat}{bm bf bv br:Nat}{s1 H t2 t3 t4:dK}{Am:Option Addr}{nm cm:Nat}{hs:List dK}{r:aS}{L:List (Nat×Nat)}{x:List (List Int)}
theorem ac_(hI:ItS w0 (N++Mc) N bm bf bv br s1 H t2 t3 t4 Am nm cm hs r L)(hNM:∀q,q∈N->q∉Mc)(XP:∀q,q∈Mc->q<w0.heap.size)(hok:∀x,x∈r.aT->rC x)(hx:aM w0 N hs x)(hsh:ShM L r.aT.length x):
 ac9 122 #[.pointer (some ⟨br,0,none⟩)] (fun _:List (List Int)=>#[.agg (dI H t2 t3 t4).toArray]) (fun x W=>aM W N hs x/\Keeps (N++Mc) w0 W) Mc N (comps r.aT L x) w0:=by
 intro l J W a f g V m;have d:Keeps (N++Mc) w0 W:=a.mono fun q u=>cP _ u;have i:aM W N hs x:=hx.turn fun b hb=>a.block b (hI.nl b hb) (hNM b hb);have t:=Hd (afg hI hNM XP hok J f g m L 0 x [] none W (fi) (cf _) (by rw[dx];exact V) d i hsh);have D:=(hI.keep d).rc;clear hI hx i d f g m V a;simp only[fp,d_,df];refine ent func122 ntmps122 ?_
 gi_wp2_with (first
  |(refine Cl 121 t.out ?_;rintro e C ⟨rfl,B,E,j,v,y,z⟩;have p:=Hd j;clear j v y z)
  |fail)
 go_end0;exact⟨⟨_,rfl⟩,B,p.out⟩
end
end
