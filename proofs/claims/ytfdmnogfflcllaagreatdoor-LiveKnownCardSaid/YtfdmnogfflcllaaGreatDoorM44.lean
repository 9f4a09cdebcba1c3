/- Lemmas. -/
import Derived.Test.YtfdmnogfflcllaaGreatDoorM42
set_option linter.unusedVariables false
set_option linter.unusedSimpArgs false
set_option maxRecDepth 100000
set_option maxHeartbeats 20000000
namespace Go.Proofs.YtfdmnogfflcllaaGreatDoor
open Go.Proofs.Tryz Go.RowKit Go.Shelf
variable {xs:List (List Int)}{k:Nat}{s:dK}{o o':Option Nat}
instance:Rep dK where
 sz:=1
 rd _ _ x cs:=cs= [x.v]
 len h:=by rw[h];rfl
 keep h _:=h
 less h _:=h
 more h _:=h
instance:kE dK:=⟨oR⟩
instance:kJ dK:=⟨by rintro w M x cs h u hu;have h:cs=_:=h;subst h;simp at hu;subst hu;rfl⟩
section
variable {w:World}{M:List Nat}{A:Option Addr}{n c:Nat}
def aeY(w:World)(M:List Nat)(hs:List dK)(xs:List (List Int)):Prop:=hs.length=xs.length/\∀(i:Nat) (h:dK) (l:List Int),hs[i]?=some h->xs[i]?=some l->Sl Int w M h.A h.n h.c l
theorem Sl.hd(h:Sl (List Int) w M A n c xs):∃hs,Sl dK w M A n c hs/\aeY w M hs xs:=by
 have y:∀k,∃s:dK,∀l,xs[k]?=some l->(∃b o,A=some ⟨b,o,none⟩/\wR w M b (o+k) [s.v])/\Sl Int w M s.A s.n s.c l:=by
  intro k
  cases e:xs[k]? with
  |none=>exact⟨⟨none,0,0⟩,fun l q=>by cases q⟩
  |some l=>obtain⟨b,o,G,rfl,⟨t,n',u,rfl,g⟩,d⟩:=h.get e;refine⟨⟨t,n',u⟩,fun J q=>?_⟩;cases q;exact⟨⟨b,o,rfl,by rwa [show Rep.sz (List Int)=1 from rfl,ij]at d⟩,g⟩
 obtain⟨f,m⟩:=Classical.axiomOfChoice y;have p:∀k s,((List.range n).map f)[k]?=some s->k<n/\s=f k:=fun k s a=>by rw[cP]at a;obtain⟨j,B,rfl⟩:=Option.map_eq_some_iff.1 a;obtain⟨g,d⟩:=bj.1 B;rw[List.getElem_range]at d;subst d;exact⟨by simpa using g,rfl⟩
 refine⟨(List.range n).map f,⟨oO,h.cap,h.room,h.small,?_⟩,by simp[h.len],fun i s l z q=>?_⟩
 ·by_cases R:xs= []
  ·left;have:n=0:=by rw[<-h.len,R];rfl
   simp[this]
  right;obtain⟨E,D⟩:=dW xs 0 (e_.2 R);obtain⟨⟨b,o,rfl,-⟩,-⟩:=m 0 E D;refine⟨b,o,rfl,fun k s a=>?_⟩;obtain⟨C,rfl⟩:=p k s a;obtain⟨l,q⟩:=dW xs k (by rw[h.len];exact C);obtain⟨⟨F,o',e,I⟩,-⟩:=m k l q;cases e;exact⟨[(f k).v],rfl,by rwa [show Rep.sz dK=1 from rfl,ij]⟩
 obtain⟨-,rfl⟩:=p i s z;exact(m i l q).2
theorem Sl.afV{hs:List dK}(h:Sl dK w M A n c hs)(g:aeY w M hs xs):Sl (List Int) w M A n c xs:=by
 refine⟨by rw[<-g.1];exact h.len,h.cap,h.room,h.small,?_⟩;rcases h.at_ with R|⟨b,o,rfl,f⟩;·left;exact c_.1 (by rw[<-g.1,R];rfl)
 refine .inr ⟨b,o,rfl,fun k l q=>?_⟩;obtain⟨s,d⟩:=dW hs k (by rw[g.1];exact(bj.1 q).1);obtain⟨e,a,V⟩:=f k s d;have a:e=_:=a;subst a;exact⟨[s.v],⟨s.A,s.n,s.c,rfl,g.2 k s l d q⟩,by rwa [show Rep.sz dK=Rep.sz (List Int)from rfl]at V⟩
theorem Sl.hdat{hs:List dK}(h:Sl dK w M A n c hs)(hk:hs[k]?=some s):∃b o,A=some ⟨b,o,none⟩/\w.cell? ⟨b,o+k,none⟩=some s.v:=by obtain⟨b,o,d,rfl,a,e⟩:=h.get hk;have a:d=_:=a;subst a;exact⟨b,o,rfl,by have:=e.c0 rfl;rwa [show Rep.sz dK=1 from rfl,ij]at this⟩
end
def plI(q:Nat×Nat):Int×Int:=((q.1:Int),(q.2:Int))
theorem afW{w:World}{M:List Nat}{x:Int×Int}{cs:List Value}(h:Rep.rd w M x cs):cs= [.int .i64 x.1,.int .i64 x.2]:=by obtain⟨_,_,rfl,⟨rfl,-⟩,⟨rfl,-⟩⟩:=h;rfl
structure aD(W:World)(N:List Nat)(hs:List dK)(x:List (List Int)):Prop where
 len:hs.length=x.length
 row:∀(i:Nat) (h:dK) (l:List Int),hs[i]?=some h->x[i]?=some l->∃b,h.A=some ⟨b,0,none⟩/\b∈N/\h.n=l.length/\h.n<=h.c/\jG h.c/\h.n<=1000/\∀(k:Nat) (m:Int),l[k]?=some m->W.cell? ⟨b,k,none⟩=some (.int .i64 m)/\W.frozen? ⟨b,k,none⟩=false/\i64 m
 dis:∀(i j:Nat) (h h':dK) (b:Nat),hs[i]?=some h->hs[j]?=some h'->h.A=some ⟨b,0,none⟩->h'.A=some ⟨b,0,none⟩->i=j
section
variable {W W':World}{M N:List Nat}{hs:List dK}{x:List (List Int)}
theorem aD.rows(h:aD W N hs x):aeY W [] hs x:=by
 refine⟨h.len,fun i s l e f=>?_⟩;obtain⟨b,g,hb,q,I,p,t,B⟩:=h.row i s l e f;refine⟨q.symm,I,p,oE,.inr ⟨b,0,g,fun k m d=>⟨[.int .i64 m],⟨rfl,(B k m d).2.2⟩,oO,fun j u a=>?_⟩⟩⟩
 match j,a with
 |0,a=>cases a;have:=(B k m d).1;simpa[show Rep.sz Int=1 from rfl]using this
theorem aD.turn(h:aD W N hs x)(hk:∀b,b∈N->W'.heap[b]?=W.heap[b]?):aD W' N hs x:=by refine⟨h.len,fun i s l e f=>?_,h.dis⟩;obtain⟨b,g,hb,t,I,j,q,B⟩:=h.row i s l e f;refine⟨b,g,hb,t,I,j,q,fun k m p=>?_⟩;obtain⟨E,P,d⟩:=B k m p;have a:=hk b hb;exact⟨by rw[<-E];simp only[World.cell?,a],by rw[<-P];simp only[World.frozen?,a],d⟩
theorem aD.put{i b:Nat}{m:Int}{l:List Int}(h:aD W N hs x)(h1:hs[i]?=some s)(hA:s.A=some ⟨b,0,none⟩)(h2:x[i]?=some l)(hk:k<l.length)(hm:i64 m):aD (W.setCell ⟨b,k,none⟩ (.int .i64 m)) N hs (aw x (i,k) m):=by
 have K:∀j,(aw x (i,k) m)[j]?=if i=j then some (l.set k m)else x[j]?:=fun j=>by
  unfold aw;rw[show x.getD (i,k).1 []=l by rw[cx,h2];rfl];have J:=(bj.1 h2).1;rw[mL];by_cases e:i=j;·subst e;simp[J]
  simp[e]
 refine⟨by rw[aaE];exact h.len,fun j z O E P=>?_,h.dis⟩;rw[K]at P;by_cases e:i=j
 ·subst e;rw[if_pos rfl]at P;cases P;rw[h1]at E;cases E;obtain⟨f,a,hb,v,I,t,u,B⟩:=h.row i s l h1 h2;rw[hA]at a;cases a;refine⟨b,hA,hb,by rw[fI];exact v,I,t,u,fun q y g=>?_⟩;rw[World.frozen?_setCell];by_cases p:k=q;·subst p;rw[fm hk]at g;cases g;obtain⟨E,P,d⟩:=B k _ (bX hk);exact⟨cZ E,P,hm⟩
  rw[fz p]at g;obtain⟨E,P,d⟩:=B q y g;exact⟨by rw[World.cell?_setCell_other _ _ _ _ (by simp<;>exact p)];exact E,P,d⟩
 rw[if_neg e]at P;obtain⟨f,a,hb,v,I,t,u,B⟩:=h.row j z O E P;refine⟨f,a,hb,v,I,t,u,fun q y g=>?_⟩;obtain⟨d,D,F⟩:=B q y g;have G:b≠f:=fun C=>by subst C;exact e (h.dis i j s z b h1 E hA a)
 exact⟨by rw[World.cell?_setCell_other _ _ _ _ (by simp[G])];exact d,by rw[World.frozen?_setCell];exact D,F⟩
end
structure ItS(w0:World)(M N:List Nat)(bm bf bv br:Nat)(s1 H t2 t3 t4:dK)(Am:Option Addr)(nm cm:Nat)(hs:List dK)(r:aS)(L:List (Nat×Nat)):Prop where
 m0:w0.cell? ⟨bm,0,none⟩=some (.slice Am nm cm)
 pl:Sl (Int×Int) w0 M Am nm cm (L.map plI)
 f0:w0.cell? ⟨bf,0,none⟩=some H.v
 f1:w0.cell? ⟨bf,1,none⟩=some t2.v
 f2:w0.cell? ⟨bf,2,none⟩=some t3.v
 f3:w0.cell? ⟨bf,3,none⟩=some t4.v
 v1:w0.cell? ⟨bv,1,none⟩=some s1.v
 cr:Sl bT w0 M s1.A s1.n s1.c r.aT
 rc:w0.cell? ⟨br,0,none⟩=some (.func (.func 121) #[] #[.pointer (some ⟨bm,0,none⟩),.pointer (some ⟨bf,0,none⟩),.pointer (some ⟨bv,0,none⟩),.pointer (some ⟨br,0,none⟩)])
 hd:Sl dK w0 M H.A H.n H.c hs
 nb:bm∉M/\bf∉M/\bv∉M/\br∉M
 NM:∀q,q∈N->q∈M
 nl:∀q,q∈N->q<w0.heap.size
theorem ItS.keep{w0 w1:World}{M N:List Nat}{bm bf bv br:Nat}{s1 H t2 t3 t4:dK}{Am:Option Addr}{nm cm:Nat}{hs:List dK}{r:aS}{L:List (Nat×Nat)}(h:ItS w0 M N bm bf bv br s1 H t2 t3 t4 Am nm cm hs r L)(k:Keeps M w0 w1):ItS w1 M N bm bf bv br s1 H t2 t3 t4 Am nm cm hs r L:=⟨k.cell h.nb.1 h.m0,h.pl.keep k,k.cell h.nb.2.1 h.f0,k.cell h.nb.2.1 h.f1,k.cell h.nb.2.1 h.f2,k.cell h.nb.2.1 h.f3,k.cell h.nb.2.2.1 h.v1,h.cr.keep k,k.cell h.nb.2.2.2 h.rc,h.hd.keep k,h.nb,h.NM,fun q hq=>cf (h.nl q hq) k.size⟩
def ShM(L:List (Nat×Nat))(nc:Nat)(x:List (List Int)):Prop:=∀q,q∈L->q.1<nc/\∃l,x[q.1]?=some l/\q.2<l.length
theorem ShM.ag{L L':List (Nat×Nat)}{nc:Nat}{x y:List (List Int)}(h:ShM L nc x)(g:AgM L' x y):ShM L nc y:=fun q hq=>by obtain⟨h0,l,h1,h2⟩:=h q hq;have hl:=(bj.1 h1).1;have hy:y[q.1]?=some (y[q.1]'(by rw[<-g.len];exact hl)):=bX _;have hr:=g.row q.1;rw[cx,cx,h1,hy,eT,eT]at hr;exact⟨h0,_,hy,by rw[<-hr];exact h2⟩
theorem av.agZ{M Mc N:List Nat}{w0 V V':World}(t:av (N++Mc) o o' V V')(k:Keeps M w0 V)(hN:∀q,q∈N->q∈M)(hMc:∀q,q∈Mc->q∈M)(ho:∀q,o=some q->w0.heap.size<=q):Keeps M w0 V':=⟨cD k.size t.size,fun q hq hm=>(t.block q (cf hq k.size) (fun h=>by
  rcases cR.1 h with h|h;·exact hm (hN q h)
  exact hm (hMc q h)) (fun e=>by have:=ho q e;omega)).trans (k.block q hq hm)⟩
section
attribute [local go_sem] cK
theorem ae0{c:bT}(h:rC c){j:Nat}(hj:j<(ao c).length):(ao c)[j]?=some (c.2.1+c.2.2.2.1*(j:Int))/\c.2.1+c.2.2.2.1*(j:Int)<=c.2.2.1/\0<=c.2.1+c.2.2.2.1*(j:Int):=by
 have q:(ao c)[j]?=some (c.2.1+c.2.2.2.1*(j:Int)):=by unfold ao at hj |-;rw[cC,fR]at hj;rw[cP,gR hj];rfl
 refine⟨q,?_⟩;have a:=(abE h).1 (aR q);unfold Nv rX at a;rw[eZ]at a;have:=h.1;exact⟨a.2.1,by have:=a.1;simp only at this;omega⟩
theorem aei{c:bT}(h:rC c):c.2.2.1<c.2.1+c.2.2.2.1*(((ao c).length:Nat):Int)/\c.2.1+c.2.2.2.1*(((ao c).length:Nat):Int)<=2000/\c.2.2.2.1<=1000:=by
 have e:=(abe h).1;obtain⟨i,j,l,D,K,-⟩:=h;rw[eB oE]at e;have G:c.2.2.2.1*((c.2.2.1-c.2.1)/c.2.2.2.1)=c.2.2.1-c.2.1:=by have:=Int.mul_ediv_add_emod (c.2.2.1-c.2.1) c.2.2.2.1;rw[jz oE]at K;omega
 have f:c.2.2.2.1*(((ao c).length:Nat):Int)=c.2.2.2.1*((c.2.2.1-c.2.1)/c.2.2.2.1)+c.2.2.2.1:=by rw[e,ml,Int.mul_one]
 have g:c.2.2.2.1<=c.2.2.1-c.2.1:=by
  have d:1<=(c.2.2.1-c.2.1)/c.2.2.2.1:=by
   by_cases R:(c.2.2.1-c.2.1)/c.2.2.2.1=0;·rw[R,Int.mul_zero]at G;omega
   have:=mH (a:=c.2.2.1-c.2.1) (b:=c.2.2.2.1) oE oE;omega
  have:=jb d (show 0<=c.2.2.2.1 by omega);omega
 omega
theorem av.cell{M:List Nat}{o o':Option Nat}{w w':World}{p:Addr}{v:Value}(h:av M o o' w w')(hp:w.cell? p=some v)(hm:p.block∉M)(ho:o≠some p.block):w'.cell? p=some v:=by rw[eR (w:=w) (h.block p.block (bu w p hp) hm ho)];exact hp
theorem av.mono{M M':List Nat}{w w':World}(h:av M o o' w w')(hm:∀q,q∈M->q∈M'):av M' o o' w w':=⟨h.size,fun q hq hn ho=>h.block q hq (fun e=>hn (hm q e)) ho,h.own⟩
theorem aD.aif{W W':World}{M N:List Nat}{hs:List dK}{x:List (List Int)}(h:aD W N hs x)(t:av M o o' W W')(hN:∀q,q∈N->q∉M/\q<W.heap.size/\o≠some q):aD W' N hs x:=h.turn fun b hb=>t.block b (hN b hb).2.1 (hN b hb).1 (hN b hb).2.2
section
variable {w0:World}{Mc N:List Nat}{bm bf bv br:Nat}{s1 H t2 t3 t4:dK}{Am:Option Addr}{nm cm:Nat}{hs:List dK}{r:aS}{L:List (Nat×Nat)}
theorem ae1(hI:ItS w0 (N++Mc) N bm bf bv br s1 H t2 t3 t4 Am nm cm hs r L)(hNM:∀q,q∈N->q∉Mc)(XP:∀q,q∈Mc->q<w0.heap.size)(hok:∀x,x∈r.aT->rC x){l:Nat}(J:List (List (List Int))->Option Nat->World->Prop)
 (hJn:∀r o W W',J r o W->KpO N W W'->J r o W') (hJo:∀r k W,J r (some k) W->w0.heap.size<=k/\k<W.heap.size)
 (mO:∀x rest o W1,aD W1 N hs x/\Keeps (N++Mc) w0 W1->J (x::rest) o W1->YieldAt Wd 8 prog l #[.agg (dI H t2 t3 t4).toArray] W1 fun e W2=>e=.returned (.bool true)/\∃o',J rest o' W2/\av Mc o o' W1 W2):
 ∀(L':List (Nat×Nat)) (n:Nat) (x:List (List Int)) (rest:List (List (List Int))) (o:Option Nat) (W:World),L.drop n=L'->n<=L.length->J (comps r.aT L' x++rest) o W->Keeps (N++Mc) w0 W->aD W N hs x->ShM L' r.aT.length x->Calls prog 121 #[.int .i64 n,.func (.yield l) #[] #[],.pointer (some ⟨bm,0,none⟩),.pointer (some ⟨bf,0,none⟩),.pointer (some ⟨bv,0,none⟩),.pointer (some ⟨br,0,none⟩)] W fun e W'=>
   e=.returned (.bool true)/\∃o' x',J rest o' W'/\aD W' N hs x'/\AgM L' x x'/\av (N++Mc) o o' W W':=by
 obtain⟨A1,q1,d1⟩:=s1;obtain⟨A2,q2,d2⟩:=H;intro L'
 induction L' with
 |nil=>
  intro n x rest o W hd hn z C hx T;refine om (n:=9) |>.1 ?_;have aH:L.length=nm:=by have:=hI.pl.len;rwa [cC]at this
  have aL:n=nm:=by have:=gM List.length hd;rw[eC,gh]at this;omega
  subst aL;have f:=hI.keep C;have aE:=f.pl.small;have e0:=f.m0;have e1:=f.f0;have e2:=f.f1;have e3:=f.f2;have e4:=f.f3;obtain⟨fn,be,aV,aX,hy,Q⟩:=mO x rest o W ⟨hx,C⟩ (by rw[comps,List.singleton_append]at z;exact z);have HR:=Hd (Ja (m':=8) Q);have HF:=Hd (show ∀o' W',J rest o' W'->av Mc o o' W W'->∃o' x',J rest o' W'/\aD W' N hs x'/\AgM [] x x'/\av (N++Mc) o o' W W' from fun o' W' Z O=>⟨o',x,Z,hx.aif O (fun q t=>⟨hNM q t,cf (hI.nl q t) C.size,fun e=>by subst e;have:=(hJo _ _ _ z).1;have:=hI.nl q t;omega⟩),AgM.refl _ _,O.mono (fun q t=>cL _ t)⟩);simp only[dI,dK.v,List.append_eq,dx,de]at hy e1 e2 e3 e4;clear hI f mO Q hJn hJo z C hx T hd;refine ent func121 rfl ntmps121 ?_
  gi_wp2_with (first
   |(refine HR.out.mono ?_;rintro e W3 ⟨rfl,o',h3,h4⟩;have I:=Hd (HF.out _ _ h3 h4);clear h3 h4)
   |fail)
  go_ret;exact⟨rfl,I.out⟩
 |cons q L'' ih=>
  intro n x rest o W hd hn z C hx T;refine om (n:=9) |>.1 ?_;have aH:L.length=nm:=by have:=hI.pl.len;rwa [cC]at this
  have ai:n<L.length:=by have:=gM List.length hd;rw[eC,et]at this;omega
  have ap:L[n]?=some q/\L.drop (n+1)=L'':=by have h:=cT ai;rw[hd]at h;injection h with Z O;exact⟨by rw[Z];exact bX ai,O.symm⟩
  have f:=hI.keep C;have aE:=f.pl.small;have e0:=f.m0;have Y:=f.v1;simp only[dK.v]at Y;obtain⟨b,ob,es,rfl,p1,p2⟩:=f.pl.get (show(L.map plI)[n]?=some (plI q) by rw[cP,ap.1];rfl);obtain rfl:=afW p1;have y0:W.cell? ⟨b,ob+n*2,none⟩=some (.int .i64 q.1):=p2.2 0 _ rfl;have y1:W.cell? ⟨b,ob+n*2+1,none⟩=some (.int .i64 q.2):=p2.2 1 _ rfl;obtain⟨aM,lq,aJ,a8⟩:=T q cd;obtain⟨c,hc⟩:=dW r.aT q.1 aM;obtain⟨b3,o3,rfl,v0,v1,v2,v3,v4,v5,v6⟩:=f.cr.IU hc;have aU:q1<4611686018427387904:=by have:=f.cr.small;simp only at this;omega
  have a7:q.1<q1:=by have:=f.cr.len;simp only at this;omega
  have au:r.aT.getD q.1 aao=c:=by rw[cx,hc];rfl
  obtain⟨W',a0,G⟩:=dR ((Fr.nil W).a W [.int .i64 q.1,.int .i64 q.2] 173);have E:=fun(p:Addr) (v:Value) (g:W.cell? p=some v)=>(G.bl.cell (bu W p g)).trans g;replace Y:=E _ _ Y;replace v0:=E _ _ v0;replace v1:=E _ _ v1;replace v2:=E _ _ v2;replace v3:=E _ _ v3;replace v4:=E _ _ v4;replace v5:=E _ _ v5;replace v6:=E _ _ v6;have o0:=aW G;obtain⟨W1,aG,F1⟩:=dR (G.a W' (DY c) 59);have F:=aW F1;clear E;have aO:=Hd G;have V:=Hd F1;have ab:=hok c (aR hc);have aF:=ab;obtain⟨c1,c2,c3,c4,-⟩:=aF;have HC:=fB ab (aei ab) au;have HI:=Hd hI;have hT:av (N++Mc) o o W W1:=av.of_below F1.bl _ _;have HT:=Hd hT;have aa:∀k,W.heap.size<=k->k∉N++Mc/\o≠some k:=fun k a5=>by
   have ba:=C.size;refine⟨fun D=>?_,fun e=>?_⟩
   ·rcases cR.1 D with D|D;·have:=hI.nl k D;omega
    have:=XP k D;omega
   subst e;have:=(hJo _ _ _ z).2;omega
  have aB:W.heap.size<=W'.heap.size:=G.bl.size;have B:=Zw (C.trans (a_ F1.bl _)) (show ∀k,o=some k->w0.heap.size<=k from fun k e=>by subst e;exact(hJo _ _ _ z).1) (aa W.heap.size pc).1 (aa W.heap.size pc).2 (aa W'.heap.size aB).1 (aa W'.heap.size aB).2;have HW:=Hd2 (show J ((ao c).flatMap (fun m=>comps r.aT L'' (aw x q m))++rest) o W1 by rw[comps,au]at z;exact hJn _ _ _ _ z (KpO.of_below F1.bl _)) (hx.turn (fun b hb=>F1.bl.block b (cf (hI.nl b hb) C.size)));have HJ:=Hd2 T ap.2;have IH:=Hd ih;clear hI f mO z C hx T hd p1 p2 ih ab;simp only[DY]at aG F;have a6:((n:Int)==(nm:Int))=false:=cU.2 oE;clear G F1;refine ent func121 rfl ntmps121 ?_;gi_wp2;clear o0 F Y v0 v1 v2 v3 v4 v5 v6 y0 y1 e0;gi_loopw[11] (fun i wr=>∃j:Nat,∃o':Option Nat,∃x':List (List Int),j<=(ao c).length/\i=.int .i64 (c.2.1+c.2.2.2.1*(j:Int))/\Hid (J (((ao c).drop j).flatMap (fun m=>comps r.aT L'' (aw x q m))++rest) o' wr)/\Hid (aD wr N hs x'/\AgM (q::L'') x x'/\av (N++Mc) o o' W1 wr)) (fun i _=>(c.2.2.1+1-intOf i).toNat);case atStart=>exact⟨0,o,x,bO _,oO,Hd (by rw[fh];exact HW.a),Hd ⟨HW.u,AgM.refl _ _,av.refl _ _ _⟩⟩
  case round=>
   obtain⟨j,F,U,z,rfl,hJ,Q⟩:=hrel;have ad:Keeps (N++Mc) w0 wr:=Q.v.agZ B.a (fun q t=>df _ t) (fun q t=>cL _ t) B.b;have g0:wr.cell? ⟨W,0,none⟩=some (.int .i64 q.1):=Q.v.cell (V.out.aQ 0 0) B.c B.d;have g1:wr.cell? ⟨W,1,none⟩=some (.int .i64 q.2):=Q.v.cell (V.out.aQ 0 1) B.c B.d;have g2:wr.cell? ⟨W',2,none⟩=some (.int .i64 c.2.2.1):=Q.v.cell (V.out.aQ 1 2) B.e B.y;by_cases aI:j<(ao c).length
   ·obtain⟨a1,a2,a3⟩:=ae0 HC.a aI;obtain⟨m,D⟩:=aC (c.2.1+c.2.2.2.1*(j:Int));rw[D]at a1 a2 a3 |-;have P:=HI.out.keep ad;have f0:=P.f0;have fr:=P.rc;obtain⟨s,S⟩:=dW hs q.1 (by rw[Q.a.len,<-Q.b.len];exact(bj.1 aJ).1);obtain⟨-,l1,af,az⟩:=(HJ.a.ag Q.b) q cd;obtain⟨b0,eA,aq,aK,ar,ak,ax,aA⟩:=Q.a.row _ _ _ S af;obtain⟨SA,sn,sc⟩:=s;simp only at eA aK ar ak ax;subst eA;obtain⟨b2,o2,rfl,z0⟩:=P.hd.hdat S;simp only[dK.v]at f0 z0;have a4:q.1<q2:=by have Z:=(bj.1 S).1;have O:=P.hd.len;simp only at O;omega
    have IV:q2<=140737488355328:=P.hd.small;obtain⟨z1,z2,-⟩:=aA q.2 _ (bX az);have a9:q.2<sn:=oE;have u0:=ah f0;have u1:=ah g0;have u2:=ah g1;have u3:=ah z0;have u4:=ah z1;clear g0 g1 z0 f0;gi_wp2;refine aP [] 10 oF oF ?_;refine ay 0 ?_;refine ay 1 ?_;refine ay 2 ?_;refine ay 3 ?_;refine ay 4 ?_;refine ay 5 ?_;refine ay 6 ?_;refine ay 7 ?_;refine ay 8 ?_;refine ay 9 ?_;refine FN 1 oF rfl ?_;refine jW fun K hK K' aZ=>?_;gi_wp2;refine dC _ ?_;simp only[cu];obtain⟨R,X⟩:=aC (wr.setCell ⟨b0,q.2,none⟩ (.int .i64 m)).drew;rw[X];have ac:KpO N wr R:=by rw[<-X];exact((KpO.refl N wr).setCell (.inl aq) _).drew
    have ae:Keeps (N++Mc) w0 R:=ad.trans (ac.k.mono (fun q t=>df _ t));have an:aD R N hs (aw U q m):=by rw[<-X];exact(Q.a.put (i:=q.1) (k:=q.2) S rfl af az oV).turn (fun _ _=>rfl)
    have al:ShM L'' r.aT.length (aw U q m):=fun p hp=>((HJ.a.ag Q.b).ag (adE (L:=q::L'') (m:=m) cd)) p (bz _ hp);have am:J (comps r.aT L'' (aw U q m)++(((ao c).drop (j+1)).flatMap (fun m=>comps r.aT L'' (aw x q m))++rest)) F R:=by have h:=hJ.out;obtain⟨hi,e⟩:=bj.1 a1;rw[cT hi,e,List.flatMap_cons,d_,ade Q.b.put]at h;exact hJn _ _ _ _ h ac
    have aY:=(HI.out.keep ae).rc;have bc:IntKind.i64.wrap ((n:Int)+1)=((n+1:Nat):Int):=by rw[bR];omega
    have bd:=HC.out.2.1.2.2;have bb:IntKind.i64.wrap (m+c.2.2.2.1)=m+c.2.2.2.1:=by rw[bR];omega
    have HX:=Hd (IH.out (n+1) (aw U q m) _ F R HJ.u ai am ae an al);have aj:=Hd2 (Q.v.trans (av.aeZ (ac.k.mono (fun q t=>df _ t)) F)) (Q.b.trans (adE (m:=m) cd));clear X ac ae an al am ad P hJ Q u0 u1 u2 u3 u4 z1 z2 g2 aA ax ar ak aq S af
    gi_wp2_with (first
     |(refine Cl 121 HX.out ?_;rintro e W5 ⟨rfl,aN,x2,k1,k2,k3,k4⟩;have HY:=h_ k1 k2 k3 (aj.a.trans k4);have z5:W5.cell? ⟨W',3,none⟩=some (.int .i64 c.2.2.2.1):=HY.w.cell (V.out.aQ 1 3) B.e B.y;clear k1 k2 k3 k4)
     |fail)
    exact⟨⟨j+1,aN,x2,oE,by rw[<-D];simp[ml,Int.add_assoc],Hd HY.a,Hd ⟨HY.b,aj.u.trans (HY.c.mono fun p hp=>bz _ hp),HY.w⟩⟩,by simp[intOf];omega⟩
   ·obtain rfl:j=(ao c).length:=oE;have a1:=HC.out.2.1.1;obtain⟨m,D⟩:=aC (c.2.1+c.2.2.2.1*(((ao c).length:Nat):Int));rw[D]at a1 |-;have I:=Hd2 (show J rest F wr by have h:=hJ.out;rwa [cA pc,List.flatMap_nil,de]at h) Q;clear hJ Q g0 g1;gi_wp2;go_ret;exact⟨rfl,F,U,I.a,I.u.a,I.u.b,HT.out.trans I.u.v⟩
end
section
variable {w0:World}{Mc N:List Nat}{bm bf bv br:Nat}{s1 H t2 t3 t4:dK}{Am:Option Addr}{nm cm:Nat}{hs:List dK}{r:aS}{L:List (Nat×Nat)}{x:List (List Int)}
theorem ac1(hI:ItS w0 (N++Mc) N bm bf bv br s1 H t2 t3 t4 Am nm cm hs r L)(hNM:∀q,q∈N->q∉Mc)(XP:∀q,q∈Mc->q<w0.heap.size)(hok:∀x,x∈r.aT->rC x)(hx:aD w0 N hs x)(hsh:ShM L r.aT.length x):
 ac0 122 #[.pointer (some ⟨br,0,none⟩)] (fun _:List (List Int)=>#[.agg (dI H t2 t3 t4).toArray]) (fun x W=>aD W N hs x/\Keeps (N++Mc) w0 W) Mc N (comps r.aT L x) w0:=by
 intro l J W a f g R j;have d:Keeps (N++Mc) w0 W:=a.mono fun q p=>cL _ p;have h:aD W N hs x:=hx.turn fun b hb=>a.block b (hI.nl b hb) (hNM b hb);have t:=Hd (ae1 hI hNM XP hok J f g j L 0 x [] none W (fh) (bO _) (by rw[ef];exact R) d h hsh);have C:=(hI.keep d).rc;clear hI hx h d f g j R a;simp only[fk,dx,de];refine ent func122 rfl ntmps122 ?_
 gi_wp2_with (first
  |(refine Cl 121 t.out ?_;rintro e B ⟨rfl,z,D,i,u,v,y⟩;have m:=Hd i;clear i u v y)
  |fail)
 go_end0;exact⟨⟨_,rfl⟩,z,m.out⟩
end
end
