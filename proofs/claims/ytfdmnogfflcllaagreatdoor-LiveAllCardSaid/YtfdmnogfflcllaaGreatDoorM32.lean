/- Lemmas -/
import Derived.Test.YtfdmnogfflcllaaGreatDoorM31
import Derived.Test.YtfdmnogfflcllaaGreatDoorM28
set_option linter.all false
set_option maxRecDepth 100000
set_option maxHeartbeats 0
namespace Go.Proofs.YtfdmnogfflcllaaGreatDoor
open Go.Proofs.Tryz
theorem AQ{p:Prop}(h:p:=by
 refine ent func29 ntmps29 ?_
 gi_wp2_with (first
  |(have g:=v.out;clear g;refine Cl 30 (aaS _ _) ?_;rintro e B ⟨rfl,rfl⟩)
  |(have g:=N.out;clear g;refine Cl 65 (aay _) ?_;rintro e J ⟨rfl,rfl⟩;have v:=Hd trivial)
  |(refine Cl 66 f.out ?_;rintro e z ⟨rfl,d⟩;replace F:=Hd (F.out.go d);have j:=aW F.out;have N:=Hd trivial;clear d)
  |(refine⟨bO,?_⟩))
 exact⟨rfl,rfl,F.out.bl⟩):p:=h
variable {a b:Rt}{all:List (List Rt)}{e n:Nat}{t1 t2 t3 t4:dK}{A:Option Addr}
theorem aap{s:List (List Int)}{q:Nat×Nat}{m:Int}{i:Nat}:(aak s q m).getD i []=if q.1=i then(s.getD i []).set q.2 m else s.getD i []:=by
 unfold aak;by_cases e:q.1=i
 ·subst e;rw[if_pos rfl];by_cases d:q.1<s.length;·rw[aaK d]
  rw[List.set_eq_of_length_le (oc d),cC,fW (oc d)];rfl
 rw[if_neg e,getD_set_ne e]
theorem aaQ{s:List (List Int)}{q:Nat×Nat}{m:Int}:(aak s q m).length=s.length:=by simp[aak]
structure AgM(L:List (Nat×Nat))(s t:List (List Int)):Prop where
 len:s.length=t.length
 row:∀i,(s.getD i []).length=(t.getD i []).length
 at_:∀i k,(i,k)∉L->(s.getD i []).getD k 0=(t.getD i []).getD k 0
section
variable {L:List (Nat×Nat)}{s t u:List (List Int)}{q:Nat×Nat}{m:Int}
theorem AgM.refl(L:List (Nat×Nat))(s:List (List Int)):AgM L s s:=⟨rfl,fun _=>rfl,fun _ _ _=>rfl⟩
theorem AgM.trans(h:AgM L s t)(g:AgM L t u):AgM L s u:=⟨h.len.trans g.len,fun i=>(h.row i).trans (g.row i),fun i k e=>(h.at_ i k e).trans (g.at_ i k e)⟩
theorem AgM.mono{L':List (Nat×Nat)}(h:AgM L s t)(hs:∀r,r∈L->r∈L'):AgM L' s t:=⟨h.len,h.row,fun i k g=>h.at_ i k fun e=>g (hs _ e)⟩
theorem ael{l:List Int}{k:Nat}(h:¬k<l.length):l.getD k 0=0:=by rw[cC,fW pj];rfl
theorem abE{l:List Int}{k j:Nat}{m:Int}:(l.set k m).getD j 0=if k=j/\j<l.length then m else l.getD j 0:=by
 by_cases e:k=j
 ·subst e;by_cases d:k<l.length;·rw[if_pos ⟨rfl,d⟩,aaK d]
  rw[if_neg (fun h=>d h.2),List.set_eq_of_length_le (oc d)]
 rw[if_neg (fun h=>e h.1),getD_set_ne e]
theorem AgM.put(h:AgM (q::L) s t):AgM L (aak s q m) (aak t q m):=by
 refine⟨by rw[aaQ,aaQ,h.len],fun i=>?_,fun i k g=>?_⟩
 ·rw[aap,aap];split;·rw[fR,fR,h.row]
  exact h.row i
 rw[aap,aap];split
 ·next e=>
  rw[abE,abE,h.row i];split;·rfl
  next e2=>
  by_cases j:q.2=k
  ·have f:¬k<(t.getD i []).length:=fun f=>e2 ⟨j,f⟩;have o:¬k<(s.getD i []).length:=by rw[h.row i];exact f
   rw[ael f,ael o]
  exact h.at_ i k fun d=>by
   rcases cD.1 d with d|d;·exact j (by rw[<-d])
   exact g d
 next e=>
 exact h.at_ i k fun d=>by
  rcases cD.1 d with d|d;·exact e (by rw[<-d])
  exact g d
theorem adY(hq:q∈L):AgM L s (aak s q m):=by
 refine⟨aaQ.symm,fun i=>?_,fun i k g=>?_⟩
 ·rw[aap];split;·rw[fR]
  rfl
 rw[aap];split
 ·next e=>
  rw[abE,if_neg];rintro⟨O,-⟩;exact g (by rw[<-e,<-O];exact hq)
 rfl
theorem AgM.eq(h:AgM [] s t):s=t:=by refine jx h.len fun i g j=>?_;have f:=h.row i;have d:=h.at_ i;simp only[cC,cd g,cd j,eK]at f d;refine jx f fun k o F=>?_;have:=d k po;simpa only[cd o,cd F,eK]using this
end
theorem adt{cs:List bT}:∀{L:List (Nat×Nat)}{s t:List (List Int)},AgM L s t->comps cs L s=comps cs L t
 | [],_,_,h=>by rw[h.eq]
 |q::L,s,t,h=>by rw[comps,comps];have:(fun m=>comps cs L (aak s q m))=fun m=>comps cs L (aak t q m):=funext fun m=>adt h.put;rw[this]
theorem aci{cs:List bT}:∀{L:List (Nat×Nat)}{s x:List (List Int)},L.Nodup->x∈comps cs L s->AgM L s x/\∀q,q∈L->q.2<(s.getD q.1 []).length->(x.getD q.1 []).getD q.2 0∈af (cs.getD q.1 aD)
 | [],s,x,_,h=>by rw[comps,bz]at h;subst h;exact⟨AgM.refl _ _,fun q hq=>by cases hq⟩
 |q::L,s,x,hn,h=>by
  rw[comps,List.mem_flatMap]at h;rw[ko]at hn;obtain⟨m,hm,h⟩:=h;obtain⟨h1,h2⟩:=aci hn.2 h;refine⟨((adY cw).trans (h1.mono fun r hr=>bE _ hr)),fun r hr hl=>?_⟩;rcases cD.1 hr with rfl|hr;·rw[<-h1.at_ r.1 r.2 hn.1,aap,if_pos rfl,abE,if_pos ⟨rfl,hl⟩];exact hm
  refine h2 r hr ?_;rw[aap];split;·rwa [fR]
  exact hl
theorem acj{i:Nat}:∀{l:List Int}{k b:Nat},(i,b)∈ao i k l↔k<=b/\l[b-k]?=some (-1)
 | [],k,b=>by simp[ao]
 |m::l,k,b=>by
  unfold ao;have ih:= @acj i l (k+1) b;by_cases e:b=k
  ·subst e;have hn:¬(b+1<=b/\l[b-(b+1)]?=some (-1)):=pj;split;·next hm=>subst hm;simp
   next hm=>
   rw[ih];constructor;·rintro⟨h,-⟩;omega
   rintro⟨-,h⟩;simp at h;exact absurd h hm
  have hd:b-k=(b-(k+1))+1\/b<k:=pj;have h1:(k<=b/\(m::l)[b-k]?=some (-1))↔(k+1<=b/\l[b-(k+1)]?=some (-1)):=by
   constructor
   ·rintro⟨a,c⟩;rcases hd with hd|hd;·rw[hd,fI]at c;exact⟨pj,c⟩
    omega
   rintro⟨a,c⟩;rcases hd with hd|hd;·rw[hd,fI];exact⟨pj,c⟩
   omega
  rw[h1];split
  ·rw[cD,ih];constructor
   ·rintro(h|h);·cases h;exact absurd rfl e
    exact h
   exact .inr
  exact ih
theorem aby:∀{s:List (List Int)}{i a b:Nat},(a,b)∈aa i s↔i<=a/\∃l,s[a-i]?=some l/\l[b]?=some (-1)
 | [],i,a,b=>by simp[aa]
 |l::s,i,a,b=>by
  rw[aa,cK, @aby s (i+1) a b];by_cases e:a=i
  ·subst e;rw[acj];simp only[cf,true_and,gA,Nat.sub_zero,iz,mz,exists_eq_left',bj];constructor
   ·rintro(h|⟨h,-⟩);·exact h
    omega
   exact .inl
  constructor
  ·rintro(h|⟨h1,h⟩);·exact absurd (aaN h).1 e
   refine⟨pj,?_⟩;rw[show a-i=(a-(i+1))+1 by omega,fI];exact h
  rintro⟨h1,h⟩;rw[show a-i=(a-(i+1))+1 by omega,fI]at h;exact .inr ⟨pj,h⟩
theorem adZ{cs:List bT}{s x:List (List Int)}{p:Int}(hc:∀c,c∈cs->rC c)(hl:s.length=cs.length)(hs:((cs.zip s).all fun q=>jc q.1 p q.2)=true)(hx:x∈comps cs (aa 0 s) s):
 x.length=cs.length/\((cs.zip x).all fun q=>jc q.1 p q.2)=true/\eY x=0/\∀l,l∈x->(l.length:Int)=p:=by
 obtain⟨E,R⟩:=aci aa0 hx;rw[cT]at hs;have K:∀(i:Nat) (c:bT) (l y:List Int),cs[i]?=some c->s[i]?=some l->x[i]?=some y->(y.length:Int)=p/\∀(k:Nat) (m:Int),y[k]?=some m->Nv (rX c) m=true:=by
  intro i c l y H B P;have hb:=hs (c,l) (bh (oG H B));unfold jc at hb;rw[cS,eW,cT]at hb;have J:=E.row i;have N:=E.at_ i;have S:=R;simp only[cC,B,P,eK]at J N;refine⟨by rw[<-J];exact hb.1,fun k m j=>?_⟩;have v:k<l.length:=by rw[J];exact(bu.1 j).1
  by_cases I:(i,k)∈aa 0 s;·have g:=S (i,k) I (by simp only[cC,B,eK];exact v);simp only[cC,P,eK,j,H]at g;exact(acP (hc c (bh H))).1 g
  have g:=N k I;rw[j,cd v,eK,eK]at g;have F:=hb.2 _ (fN v);unfold oD at F;rw[g,ie,eW]at F;refine F.resolve_left fun e=>I (aby.2 ⟨cf _,l,B,?_⟩);rw[cd v,g,e]
 have W:x.length=cs.length:=by rw[<-E.len];exact hl
 have C:∀i,i<cs.length->∃c l y,cs[i]?=some c/\s[i]?=some l/\x[i]?=some y:=fun i d=>⟨_,_,_,cd d,cd pj,cd pj⟩;refine⟨W,cT.2 fun q V=>?_,?_,fun l T=>?_⟩
 ·obtain⟨i,d,e⟩:=oA.1 V;rw[kI]at d;obtain⟨c,l,y,D,o,f⟩:=C i pj;have O:(cs.zip x)[i]?=some q:=by rw[cd (by rw[kI];exact d),e]
  rw[oG D f]at O;cases O;obtain⟨X,Y⟩:=K i c l y D o f;unfold jc;rw[cS,eW,cT];refine⟨X,fun m z=>?_⟩;obtain⟨k,j⟩:=gN z;unfold oD;rw[Y k m j,Bool.or_true]
 ·by_cases z:eY x=0;·exact z
  exfalso;obtain⟨Q,g,F⟩:=Py z;obtain⟨i,d⟩:=gN g;obtain⟨k,j⟩:=gN F;obtain⟨c,l,y,D,o,f⟩:=C i (by have:=(bu.1 d).1;omega);rw[d]at f;cases f;have G:=(K i c l _ D o d).2 k _ j;have Z:=(hc c (bh D)).1;unfold Nv rX at G;rw[eW]at G;have h7:c.2.1<= -1:=G.1;omega
 ·obtain⟨i,d⟩:=gN T;obtain⟨c,Q,y,D,o,f⟩:=C i (by have:=(bu.1 d).1;omega);rw[d]at f;cases f;exact(K i c Q _ D o d).1
def aE(l:List Rt):Rt:=l.getD 0 zR
def ax(l:List Rt):Rt:=l.getD (l.length-1) zR
def aaL(g:List Rt->Rt)(all:List (List Rt))(e:Nat)(x:Rt):Nat:=(List.range all.length).countP fun i=>decide (i≠e)&&decide (0<rW (g (all.getD i [])) x)
def aaF(all:List (List Rt))(e:Nat):List Nat:=(List.range (all.length+1)).filter fun n=>(all.getD e []).any fun x=>decide (aaL aE all e x+1<=n)&&decide (n<=aaL ax all e x+1)
structure aaq(l:List Rt):Prop where
 ok:∀y,y∈l->y.ok
 ris:ac1 l
 ne:l≠ []
theorem ac2:∀{l:List Rt},ac1 l->∀{i j:Nat}{x y:Rt},l[i]?=some x->l[j]?=some y->i<j->rW x y<0
 |z::l,h,0,j+1,x,y,hi,hj,_=>by cases hi;exact h.1 y (bh (by simpa using hj))
 |z::l,h,i+1,j+1,x,y,hi,hj,hij=>ac2 h.2 (by simpa using hi) (by simpa using hj) pj
section
variable {l k:List Rt}
theorem aaq.head(h:aaq l):aE l∈l:=by have:=fL.2 h.ne;unfold aE;rw[cC,cd this];exact fN _
theorem aaq.last(h:aaq l):ax l∈l:=by have:=fL.2 h.ne;unfold ax;rw[cC,cd (show l.length-1<l.length by omega)];exact fN _
theorem aaq.low(h:aaq l){y:Rt}(hy:y∈l):rW (aE l) y<=0:=by
 obtain⟨i,d,rfl⟩:=oA.1 hy;have V:=fL.2 h.ne;have e:aE l=l[0]:=by unfold aE;rw[cC,cd V];rfl
 rw[e];by_cases f:i=0;·subst f;rw[abh];exact Int.le_refl 0
 exact Int.le_of_lt (ac2 h.ris (cd V) (cd d) pj)
theorem aaq.high(h:aaq l){y:Rt}(hy:y∈l):rW y (ax l)<=0:=by
 obtain⟨i,f,rfl⟩:=oA.1 hy;have V:=fL.2 h.ne;have d:l.length-1<l.length:=pj;have e:ax l=l[l.length-1]:=by unfold ax;rw[cC,cd d];rfl
 rw[e];by_cases g:i=l.length-1;·subst g;rw[abh];exact Int.le_refl 0
 exact Int.le_of_lt (ac2 h.ris (cd f) (cd d) pj)
end
theorem abG{c:Rt}(ha:a.ok)(hb:b.ok)(hc:c.ok)(h1:rW a b<=0)(h2:0<rW a c):0<rW b c:=by
 have d:rW c a<0:=by have:=aaC a c;omega
 have F:rW c b<0:=(aaY hc hb).2 (Std.lt_of_lt_of_le ((aaY hc ha).1 d) ((ab_ ha hb).1 h1));have:=aaC c b;omega
structure aj1(all new:List (List Rt)):Prop where
 len:new.length=all.length
 old:∀i,i<all.length->aaq (all.getD i [])
 nw:∀i,i<all.length->aaq (new.getD i [])
 sub:∀i,i<all.length->∀x,x∈new.getD i []->x∈all.getD i []
theorem ahg{x:Rt}(h:∀i,i<all.length->aaq (all.getD i []))(hx:x.ok):aaL aE all e x<=aaL ax all e x:=by unfold aaL;refine List.countP_mono_left fun i f d=>?_;rw[ga]at f;rw[cS]at d |-;refine⟨d.1,cx ?_⟩;have o:=h i f;exact abG (o.ok _ o.head) (o.ok _ o.last) hx (o.low o.last) (cW d.2)
theorem ae9{g:List Rt->Rt}{x:Rt}(he:e<all.length):aaL g all e x<all.length:=by unfold aaL;have d:=mq (p:=fun i=>decide (i≠e)&&decide (0<rW (g (all.getD i [])) x)) (l:=List.range all.length);have f:=List.countP_eq_length (p:=fun i=>decide (i≠e)&&decide (0<rW (g (all.getD i [])) x)) (l:=List.range all.length);rw[gh]at d f;refine Nat.lt_of_le_of_ne d fun H=>?_;have:=f.1 H e (ga.2 he);simp at this
def mkC(c:dS)(s:List (List Int)):dS:=⟨s,c.bonus,c.malus,c.prev⟩
def av(r:aS)(c:dS):List (List (List Int)):=comps r.aT (aa 0 c.marks) c.marks
def aae(r:aS)(c:dS):Nat:=manyN r.aT (aa 0 c.marks)
def aao(r:aS)(x:aJ)(c:dS)(s:List (List Int)):Rt:=rG (kW r (mkC c s)) (au x)
def an(r:aS)(x:aJ)(c:dS):List Rt:=aai [] ((av r c).map (aao r x c))
section
variable {r:aS}{c:dS}{x:aJ}{k:Nat}{s:List (List Int)}
theorem abV(hg:f_ r k c)(hs:s∈av r c):f_ r k (mkC c s)/\eY s=0:=by obtain⟨x,hx,K⟩:=Zi hg;have d:=hg.1;unfold kS at K;simp only[cS,ef]at K;obtain⟨f,g,j,-⟩:=adZ (p:=x.2.1) d.2.1.aT K.1.1.1.1.1 K.1.2 hs;refine⟨⟨d,k,x,rfl,hx,?_⟩,j⟩;unfold kS mkC;simp only[cS,ef];exact⟨⟨⟨⟨⟨f,K.1.1.1.1.2⟩,K.1.1.1.2⟩,K.1.1.2⟩,g⟩,K.2⟩
theorem ac3(hw:yI r c)(hs:s∈av r c):yI r (mkC c s):=by obtain⟨h,-⟩:=aci aa0 hs;refine⟨hw.fw,hw.parts,⟨by show s.length<=_;rw[<-h.len];exact hw.lens.1,hw.lens.2⟩,fun l j=>?_,hw.prev⟩;obtain⟨i,d⟩:=gN (show l∈s from j);have g:=(bu.1 d).1;have f:=h.row i;rw[cC,cC,d,cd (by rw[h.len];exact g),eK,eK]at f;rw[<-f];exact hw.mark _ (fN _)
theorem abH(hg:f_ r k c)(hw:yI r c)(hx:r.rounds[k]?=some x)(hp:x.2.2.2.2.1=false)(hs:s∈av r c):yx (aao r x c s) 300:=by obtain⟨D,d⟩:=abV hg hs;have f:=hw.parts x (bh hx);exact(ae5 (ae6 D (ac3 hw hs) d) (au x) f (agh hg.1 hx hp)).up pj
end
theorem abW:∀{xs l:List Rt},(∀y,y∈l->y.ok)->(∀y,y∈xs->y.ok)->ac1 l->ac1 (aai l xs)
 | [],_,_,_,h=>h
 |x::xs,l,h,g,hr=>by have hx:=g x cw;exact abW (xs:=xs) (aek hx h) (fun y hy=>g y (bE _ hy)) (ads hx h hr)
section
variable {r:aS}{c:dS}{x:aJ}{k:Nat}{y:Rt}
theorem abz(hg:f_ r k c)(hw:yI r c)(hx:r.rounds[k]?=some x)(hp:x.2.2.2.2.1=false):y∈an r x c↔∃s,s∈av r c/\aao r x c s=y:=by unfold an;rw[abU (fun y g=>by cases g) (fun y g=>by obtain⟨s,hs,rfl⟩:=eE.1 g;exact(abH hg hw hx hp hs).ok),eE];simp
theorem abj(hg:f_ r k c)(hw:yI r c)(hx:r.rounds[k]?=some x)(hp:x.2.2.2.2.1=false)(hy:y∈an r x c):yx y 300:=by obtain⟨s,hs,rfl⟩:=(abz hg hw hx hp).1 hy;exact abH hg hw hx hp hs
theorem aa1(hg:f_ r k c)(hw:yI r c)(hx:r.rounds[k]?=some x)(hp:x.2.2.2.2.1=false):aaq (an r x c):=by
 refine⟨fun y g=>(abj hg hw hx hp g).ok,abW (fun y g=>by cases g) (fun y g=>?_) trivial,fun e=>?_⟩;·obtain⟨s,hs,rfl⟩:=eE.1 g;exact(abH hg hw hx hp hs).ok
 have d:=aad r.aT (aa 0 c.marks) c.marks;have f:=aaP r.aT (aa 0 c.marks);obtain⟨s,hs⟩:∃s,s∈av r c:=List.exists_mem_of_length_pos (by unfold av;omega);have:=(abz hg hw hx hp).2 ⟨s,hs,rfl⟩;rw[e]at this;cases this
end
def aaR(x:Rt):List Rt->Nat
 | []=>0
 |y::l=>if rW y x<0 then aaR x l+1 else 0
def aav(x:Rt)(l:List Rt):Bool:=match l[aaR x l]? with
 |some y=>decide (rW y x=0)
 |none=>false
theorem ac4(x:Rt):∀l,aaR x l<=l.length
 | []=>bj _
 |y::l=>by
  unfold aaR;split;·have:=ac4 x l;simp only[eh];omega
  exact cf _
theorem ac5(x:Rt):∀l,abx x l=if aav x l=true then l else l.take (aaR x l)++x::l.drop (aaR x l)
 | []=>rfl
 |y::l=>by
  have ih:=ac5 x l;unfold abx;by_cases h:rW y x<0
  ·rw[if_pos h,ih];have e:aaR x (y::l)=aaR x l+1:=by rw[aaR,if_pos h]
   have O:aav x (y::l)=aav x l:=by unfold aav;rw[e,fI]
   rw[O,e];split<;>simp
  rw[if_neg h];have e:aaR x (y::l)=0:=by rw[aaR,if_neg h]
  have O:aav x (y::l)=decide (rW y x=0):=by unfold aav;rw[e];rfl
  rw[O,e];by_cases d:rW y x=0;·rw[if_pos d,if_pos (cx d)]
  rw[if_neg d,if_neg (by simpa using d)];rfl
theorem ae_{x:Rt}:∀{l:List Rt}{j:Nat}{y:Rt},j<aaR x l->l[j]?=some y->rW y x<0
 |z::l,j,y,hj,hy=>by
  unfold aaR at hj;split at hj
  ·next h=>
   match j,hj,hy with
   |0,_,hy=>cases hy;exact h
   |j+1,hj,hy=>exact ae_ (l:=l) (j:=j) pj (by simpa using hy)
  omega
theorem afa{x:Rt}(hx:x.ok):∀{l:List Rt}{j:Nat}{y:Rt},(∀y,y∈l->y.ok)->ac1 l->aaR x l<=j->l[j]?=some y->0<=rW y x/\(aaR x l<j->0<rW y x)
 |z::l,j,y,ho,hr,hj,hy=>by
  unfold aaR at hj |-;by_cases h:rW z x<0
  ·rw[if_pos h]at hj |-
   match j,hj,hy with
   |j+1,hj,hy=>have:=afa hx (l:=l) (j:=j) (y:=y) (fun y hy=>ho y (bE _ hy)) hr.2 pj (by simpa using hy);exact⟨this.1,fun h=>this.2 pj⟩
  rw[if_neg h]at hj |-
  match j,hy with
  |0,hy=>cases hy;exact⟨pj,fun h=>absurd h pj⟩
  |j+1,hy=>
   have hm:=bh (show l[j]?=some y by simpa using hy);have h1:=hr.1 y hm;have oz:=ho z cw;have oy:=ho y (bE _ hm);have h2:rW x z<=0:=by have:=aaC z x;omega
   have d:rW x y<0:=(aaY hx oy).2 (Std.lt_of_le_of_lt ((ab_ hx oz).1 h2) ((aaY oz oy).1 h1));have:=aaC x y;exact⟨pj,fun _=>by omega⟩
section
open Go.RowKit Go.Shelf
attribute [local go_sem] cX
theorem aas(k:Int)(w:World):Calls prog 30 #[true,k] w fun e w'=>e=.returned (.tuple #[])/\w=w':=by refine wid ?_;refine ent func30 ntmps30 ?_;gi_wp2;go_end0;exact⟨rfl,rfl⟩
theorem aaS(k:Int)(w:World):Calls prog 30 #[false,k] w fun e w'=>e=Wx k/\w=w':=by refine wid ?_;refine ent func30 ntmps30 ?_;gi_wp2;exact⟨rfl,rfl,rfl⟩
theorem aay(w:World):Calls prog 65 #[.int .i64 0] w fun e w'=>e=.returned (.tuple #[])/\w=w':=by
 refine wid ?_;refine ent func65 ntmps65 ?_
 gi_wp2_with (first
  |(refine Cl 30 (aas _ _) ?_;rintro e d ⟨rfl,rfl⟩)
  |fail)
 go_end0;exact⟨rfl,rfl⟩
theorem aeA(k:Int)(hk:k≠0)(w:World):Calls prog 65 #[k] w fun e w'=>e=Wx k/\w=w':=by
 refine wid ?_;have d:(k==0)=false:=cU.2 hk;clear hk;refine ent func65 ntmps65 ?_
 gi_wp2_with (first
  |(refine Cl 30 (aaS _ _) ?_;rintro e f ⟨rfl,rfl⟩)
  |fail)
 exact⟨rfl,rfl,rfl⟩
theorem aan(p:Addr)(x y:Int)(older:List PanicEntry)(w:World)(hc:w.cell? p=some (.int .i64 y))(hf:w.frozen? p=false):
 CallsDIn Fence.wide n prog 28 #[.pointer (some p)] (.panicking ({ v:=Tj x,recovered:=false }::older)) w fun e u' w'=>e=.returned (.tuple #[])/\u'=.panicking ({ v:=Tj x,recovered:=true }::older)/\w'=w.setCell p x:=by
 refine callsDIn_of_wpSIn func28 rfl trivial fun c₀ cs hu=>?_;apply wpSIn_seq;apply wpSIn_region;simp[wpOpsSIn,go_sem,recoverD,hu,ntmps28,Exit.thenS];refine wpSIn_of_wpIn rfl ?_;refine nE (Q:=fun e d w'=>e=.normal/\d.defers= []/\w'=w.setCell p (.int .i64 x)) ?_ ?_;rotate_left;·rintro e d w' ⟨rfl,f,rfl⟩;simp[bodyPostS,results,results28,f]
 clear hu;have g:=Ee x;simp only[gR,gS,i_,fp,df,d_,eN,fq,eM];gi_wp2
theorem abJ(p:Addr)(w:World):
 CallsDIn Fence.wide n prog 28 #[.pointer (some p)] .returning w fun e u' w'=>e=.returned (.tuple #[])/\u'=.returning/\w'=w:=by
 refine callsDIn_of_wpSIn func28 rfl trivial fun c₀ cs hu=>?_;apply wpSIn_seq;apply wpSIn_region;simp[wpOpsSIn,go_sem,recoverD,hu,ntmps28,Exit.thenS];refine wpSIn_of_wpIn rfl ?_;refine nE (Q:=fun e d w'=>e=.normal/\d.defers= []/\w'=w) ?_ ?_;rotate_left;·rintro e d w' ⟨rfl,f,rfl⟩;cases c₀;simp_all[bodyPostS,results,results28,f]
 clear hu;simp only[gR,gS,i_,fp,df,d_,eN,fq,eM];gi_wp2
abbrev evV(r:aS)(s1 s2 s3 s4 s5 s6 s7:dK)(i:Int):List Value:= [r.name,.slice s1.A s1.n s1.c,.slice s2.A s2.n s2.c,.slice s3.A s3.n s3.c,.slice s4.A s4.n s4.c,.slice s5.A s5.n s5.c,.slice s6.A s6.n s6.c,.slice s7.A s7.n s7.c,r.best,i]
section
variable {M:List Nat}{r:aS}{s1 s2 s3 s4 s5 s6 s7:dK}{w:World}{i:Int}
theorem aeB(hr:dG w M r s1 s2 s3 s4 s5 s6 s7)(hs:Sound r)(ht:Tab w)(hM:b_ M w)(hi:i<0\/(r.rounds.length:Int)<=i):
 Calls prog 29 #[.agg (aV r s1 s2 s3 s4 s5 s6 s7).toArray,i] w fun e w'=>e=Wx 1/\Below w w w':=by
 refine wid ?_;obtain⟨W1,E,F1⟩:=dR (((Fr.nil w).a w (aV r s1 s2 s3 s4 s5 s6 s7) 28).a (w+1) [.string ⟨#[]⟩,.slice none 0 0,.slice none 0 0,.slice none 0 0,.slice none 0 0,.slice none 0 0,.slice none 0 0,.slice none 0 0,.int .i64 0,.int .i64 0] 79);have j:=aW F1;have F:=Hd F1;obtain⟨H,T⟩:=hs.2.2.1;have f:=Hd (Pq (hr.go F1.bl) hs.1 hs.2.1 T hs.2.2.2 (tab_below ht F1.bl) (hM.le F1.bl.size));have p:=hr.rounds.len;have G:=hr.rounds.small;clear F1 hr hs hM ht T;by_cases V:i<0;·have o:(decide (0<=i))=false:=cE pj;have D:(decide (i>=0))=false:=cE pj;clear hi;exact AQ
 ·have o:(decide (0<=i))=true:=cx pj;have C:(decide (i>=0))=true:=cx pj;have D:(decide (i<((s5.n:Nat):Int)))=false:=cE pj;clear hi V p;exact AQ
theorem abe{i:Nat}(hr:dG w M r s1 s2 s3 s4 s5 s6 s7)(hs:Sound r)(ht:Tab w)(hM:b_ M w)(hi:i<r.rounds.length):
 CB 29 #[.agg (aV r s1 s2 s3 s4 s5 s6 s7).toArray,i] (.agg (evV r s1 s2 s3 s4 s5 s6 s7 i).toArray) w:=by
 refine wid ?_;obtain⟨W1,P,F1⟩:=dR (((Fr.nil w).a w (aV r s1 s2 s3 s4 s5 s6 s7) 28).a (w+1) [.string ⟨#[]⟩,.slice none 0 0,.slice none 0 0,.slice none 0 0,.slice none 0 0,.slice none 0 0,.slice none 0 0,.slice none 0 0,.int .i64 0,.int .i64 0] 79);have I:=aW F1;have F:=Hd F1;obtain⟨S,T⟩:=hs.2.2.1;have j:=Hd (Pq (hr.go F1.bl) hs.1 hs.2.1 T hs.2.2.2 (tab_below ht F1.bl) (hM.le F1.bl.size));have H:=hr.rounds.len;have R:=hr.rounds.small;clear F1 hr hs hM ht T;have K:((i:Nat):Int)>=0:=pj;have O:((i:Nat):Int)<((s5.n:Nat):Int):=pj;clear hi H;refine ent func29 ntmps29 ?_
 gi_wp2_with (first
  |(have g:=v.out;clear g;refine Cl 30 (aas _ _) ?_;rintro e W ⟨rfl,rfl⟩)
  |(have g:=N.out;clear g;refine Cl 65 (aay _) ?_;rintro e V ⟨rfl,rfl⟩;have v:=Hd trivial)
  |(refine Cl 66 j.out ?_;rintro e J ⟨rfl,d⟩;replace F:=Hd (F.out.go d);have I:=aW F.out;have N:=Hd trivial;clear d)
  |(refine⟨bO,?_⟩))
 have f:=F.out.only (L':= [(w.heap.size+1, [.string ⟨#[]⟩,.slice none 0 0,.slice none 0 0,.slice none 0 0,.slice none 0 0,.slice none 0 0,.slice none 0 0,.slice none 0 0,.int .i64 0,.int .i64 0])]) (fun x hx=>by simp at hx;simp[hx]);refine(fun(h:∀U,fM J (w.heap.size+1) 0 (evV r s1 s2 s3 s4 s5 s6 s7 i)=U->bodyPost _ _ _ _ _ U)=>h _ rfl) ?_;intro U E;obtain⟨f2,-⟩:=f.abt (us:=evV r s1 s2 s3 s4 s5 s6 s7 i) rfl E;have o:=f2.aQ 0 0;have G:=f2.aQ 0 1;have Q:=f2.aQ 0 2;have p:=f2.aQ 0 3;have z:=f2.aQ 0 4;have c5:=f2.aQ 0 5;have B:=f2.aQ 0 6;have c7:=f2.aQ 0 7;have C:=f2.aQ 0 8;have D:=f2.aQ 0 9;exact⟨rfl,.agg (evV r s1 s2 s3 s4 s5 s6 s7 i).toArray,by simp[results,results29,go_sem,o,G,Q,p,z,c5,B,c7,C,D],rfl,f2.bl⟩
theorem acs{c:dS}(hr:dG w M r s1 s2 s3 s4 s5 s6 s7)(hc:jE w M c t1 t2 t3 t4)(hs:Sound r)(hk:vF r i c=0)(ht:Tab w)(hM:b_ M w):
 CB 31 #[.agg (evV r s1 s2 s3 s4 s5 s6 s7 i).toArray,.agg (dI t1 t2 t3 t4).toArray] (.tuple #[]) w:=by
 refine wid ?_;obtain⟨W1,B,F1⟩:=dR (((Fr.nil w).a w (evV r s1 s2 s3 s4 s5 s6 s7 i) 79).a (w+1) (dI t1 t2 t3 t4) 42);have j:=aW F1;have F:=Hd F1;have d:=Hd (rO (i:=i) (hr.go F1.bl) (hc.go F1.bl) hs (tab_below ht F1.bl) (hM.le F1.bl.size));rw[hk]at d;clear F1 hr hs hM ht hc hk;refine ent func31 ntmps31 ?_
 gi_wp2_with (first
  |(have g:=N.out;clear g;refine Cl 65 (aay _) ?_;rintro e J ⟨rfl,rfl⟩)
  |(refine Cl 40 d.out ?_;rintro e o ⟨rfl,f⟩;replace F:=Hd (F.out.go f);have j:=aW F.out;have N:=Hd trivial;clear f)
  |fail)
 go_end0;exact⟨rfl,F.out.bl⟩
theorem aeC{c:dS}{K:Int}(hr:dG w M r s1 s2 s3 s4 s5 s6 s7)(hc:jE w M c t1 t2 t3 t4)(hs:Sound r)(hk:vF r i c=K)(h0:K≠0)(ht:Tab w)(hM:b_ M w):
 Calls prog 31 #[.agg (evV r s1 s2 s3 s4 s5 s6 s7 i).toArray,.agg (dI t1 t2 t3 t4).toArray] w fun e w'=>e=Wx K/\Below w w w':=by
 refine wid ?_;obtain⟨W1,B,F1⟩:=dR (((Fr.nil w).a w (evV r s1 s2 s3 s4 s5 s6 s7 i) 79).a (w+1) (dI t1 t2 t3 t4) 42);have j:=aW F1;have F:=Hd F1;have d:=Hd (rO (i:=i) (hr.go F1.bl) (hc.go F1.bl) hs (tab_below ht F1.bl) (hM.le F1.bl.size));rw[hk]at d;clear F1 hr hs hM ht hc hk;refine ent func31 ntmps31 ?_
 gi_wp2_with (first
  |(have g:=N.out;clear g;refine Cl 65 (aeA K h0 _) ?_;rintro e J ⟨rfl,rfl⟩)
  |(refine Cl 40 d.out ?_;rintro e o ⟨rfl,f⟩;replace F:=Hd (F.out.go f);have j:=aW F.out;have N:=Hd trivial;clear f)
  |fail)
 exact⟨rfl,rfl,F.out.bl⟩
end
theorem aag{M:List Nat}{va vb:Value}{w:World}(hM:b_ M w)(ha:QW w M va a)(hb:QW w M vb b)(oa:a.ok)(ob:b.ok)(hf:Fine a b):
 CB 35 #[va,vb] (.int .i64 (rW a b)) w:=by
 refine wid ?_;obtain⟨P,S,v,K,G,C,I,E,rfl,o⟩:=QC.of ha;obtain⟨R,T,B,O,Q,D,J,H,rfl,p⟩:=QC.of hb;obtain⟨W1,V,F1⟩:=dR (((Fr.nil w).a w [P,.slice v K G,S,.slice C I E] 48).a (w+1) [R,.slice B O Q,T,.slice D J H] 48);have W:=aW F1;have F:=Hd F1;have d:=Hd (WZ (hM.le F1.bl.size) (o.go F1.bl).qw (p.go F1.bl).qw oa ob hf);obtain⟨z,j⟩:=aC (rW a b);rw[j]at d |-;clear F1 ha hb o p hM oa ob hf j;refine ent func35 ntmps35 ?_
 gi_wp2_with (first
  |(have g:=N.out;clear g;refine Cl 65 (aay _) ?_;rintro e Y ⟨rfl,rfl⟩)
  |(refine Cl 14 d.out ?_;rintro e X ⟨rfl,f⟩;replace F:=Hd (F.out.go f);have N:=Hd trivial;clear f)
  |fail)
 go_ret;exact⟨rfl,F.out.bl⟩
abbrev SlR(w:World)(M:List Nat)(A:Option Addr)(n c:Nat)(l:List Rt):Prop:=Sl fC w M A n c (l.map jd)
theorem Sl.aaV{w:World}{M:List Nat}{c k:Nat}{l:List Rt}{x:Rt}(h:SlR w M A n c l)(hk:l[k]?=some x):
 ∃b o p q A1 n1 c1 A2 n2 c2,A=some ⟨b,o,none⟩/\(w.cell? ⟨b,o+k*4,none⟩=some (.bool p)/\w.cell? ⟨b,o+k*4+1,none⟩=some (.slice A1 n1 c1)/\w.cell? ⟨b,o+k*4+2,none⟩=some (.bool q)/\w.cell? ⟨b,o+k*4+3,none⟩=some (.slice A2 n2 c2))/\QC w M x p q A1 n1 c1 A2 n2 c2:=by
 obtain⟨b,o,A1,n1,c1,A2,n2,c2,e,d,D,f,g,s1,s2⟩:=h.MG (x:=jd x) (by rw[cM,hk];rfl);exact⟨b,o,_,_,A1,n1,c1,A2,n2,c2,e,⟨d,D,f,g⟩,⟨rfl,s1⟩,⟨rfl,s2⟩⟩
structure aiH(l:List Rt):Prop where
 ok:∀y,y∈l->y.ok
 sh:∀y,y∈l->Sh y
 ris:ac1 l
theorem ab3{M:List Nat}{c:Nat}{l:List Rt}{v:Value}{x:Rt}{w:World}(hM:b_ M w)(hs:SlR w M A n c l)(hx:QW w M v x)(ho:aiH l)(xo:x.ok)(xs:Sh x):
 CB 69 #[.slice A n c,v,.func (.func 35) #[] #[]] (.tuple #[.int .i64 (aaR x l:Nat),.bool (aav x l)]) w:=by
 refine wid ?_;have am:=hs.small;have aa:l.length=n:=by have:=hs.len;rwa [ck]at this
 obtain⟨p2,q2,X,n2,c2,Y,m2,d2,rfl,qx⟩:=QC.of hx;obtain⟨W1,af,F1⟩:=dR ((Fr.nil w).a w [p2,.slice X n2 c2,q2,.slice Y m2 d2] 48);have J:=aW F1;have F:=Hd F1;have H:=oK hs qx ho xo xs;have HM:=Hd2 hM aa;obtain⟨P,S⟩:=aC (aaR x l);have ab:P<=n:=by rw[<-S,<-aa];exact ac4 x l
 obtain⟨Z,W⟩:=aC (aav x l);rw[S,W];have D:=Hd2 S W;clear F1 hs hx qx ho xo xs hM S W;refine ent func69 ntmps69 ?_;gi_wp2;clear J;gi_loopw[9,10] (fun i j wr=>∃a b:Nat,i=a/\j=b/\a<=P/\P<=b/\b<=n/\Hid (Fr w wr [(w, [p2,.slice X n2 c2,q2,.slice Y m2 d2])])) (fun i j _=>(intOf j).toNat-(intOf i).toNat);case atStart=>exact⟨0,n,rfl,rfl,cf _,ab,bj _,F⟩
 case round=>
  obtain⟨a,b,rfl,rfl,ha,hb,ac,f⟩:=hrel;have J:=aW f.out;by_cases al:a<b
  ·obtain⟨h,hh⟩:∃h:Nat,((a:Int)+(b:Int))/2=(h:Int):=⟨(a+b)/2,pj⟩;have ag:a<=h:=pj;have ai:h<b:=pj;obtain⟨y,o⟩:=dW l h (by rw[HM.u];omega);obtain⟨b3,o3,p3,q3,A3,n3,c3,B3,m3,d3,rfl,⟨N,O,Q,R⟩,qy⟩:=(H.a.go f.out.bl).aaV o;have C:=bh o;have E:=Hd (aag (HM.a.le (w':=wr.drew) f.out.bl.size) (qy.go (bL wr wr).drew).qw ((H.b.go f.out.bl).go (bL wr wr).drew).qw (H.c.ok y C) H.d ((H.c.sh y C).fine H.x));obtain⟨z,B⟩:=aC (rW y x);rw[B]at E;have v0:=ah N;have v1:=ah O;have v2:=ah Q;have v3:=ah R;have t0:=ah (f.out.aQ 0 0);have t1:=ah (f.out.aQ 0 1);have t2:=ah (f.out.aQ 0 2);have t3:=ah (f.out.aQ 0 3);have HY:=Hd2 o B;have aj:h<n:=pj;clear o B N O Q R qy C;gi_wp2;refine ak [] (List.range 8) pk pk ?_;refine eH ?_;refine aH fun K G=>aA rfl rfl wy fun V I=>?_;gi_wp2;refine Cl 35 E.out ?_;rintro e w3 ⟨rfl,p⟩;have F3:=Hd (f.out.drew.go p);refine I _ _ ⟨?_,G _ _ ?_⟩;clear I V G K;·exact bq p _
   clear p v0 v1 v2 v3 t0 t1 t2 t3 J;refine lit ?_;refine eH ?_;refine aK ?_;refine lit ?_;by_cases z0:z<0
   ·have ae:decide (z<0)=true:=cx z0;have T:=Hd (show h+1<=P by
     rcases lP h P with g|g;·exact g
     rw[<-D.a]at g;have:=(afa H.d H.c.ok H.c.ris g HY.a).1;rw[HY.u]at this;omega)
    gi_wp2;exact⟨⟨h+1,b,by go_num,rfl,T.out,hb,ac,F3⟩,by simp[intOf];omega⟩
   have ae:decide (z<0)=false:=cE z0;have T:=Hd (show P<=h by
    rcases lP h P with g|g;·rw[<-D.a]at g;have:=ae_ g HY.a;rw[HY.u]at this;omega
    exact g)
   gi_wp2;exact⟨⟨a,h,rfl,by go_num,ha,T.out,pj,F3⟩,by simp[intOf];omega⟩
  ·obtain rfl:a=P:=pj;obtain rfl:b=a:=pj;by_cases ad:b<n
   ·obtain⟨y,o⟩:=dW l b (by rw[HM.u];exact ad);obtain⟨b3,o3,p3,q3,A3,n3,c3,B3,m3,d3,rfl,⟨N,O,Q,R⟩,qy⟩:=(H.a.go f.out.bl).aaV o;have C:=bh o;have E:=Hd (aag (HM.a.le (w':=wr.drew) f.out.bl.size) (qy.go (bL wr wr).drew).qw ((H.b.go f.out.bl).go (bL wr wr).drew).qw (H.c.ok y C) H.d ((H.c.sh y C).fine H.x));obtain⟨z,B⟩:=aC (rW y x);rw[B]at E;have HZ:=Hd (show Z=(z==0) by
     rw[<-D.u];unfold aav;rw[D.a,o];show decide (rW y x=0)=_;rw[B];rfl)
    have v0:=ah N;have v1:=ah O;have v2:=ah Q;have v3:=ah R;have t0:=ah (f.out.aQ 0 0);have t1:=ah (f.out.aQ 0 1);have t2:=ah (f.out.aQ 0 2);have t3:=ah (f.out.aQ 0 3);clear o B N O Q R qy C J;gi_wp2;refine ak [] (List.range 16) pk pk ?_;refine eH ?_;refine aH fun K G=>aA rfl rfl wy fun V I=>?_;gi_wp2;refine Cl 35 E.out ?_;rintro e w3 ⟨rfl,p⟩;have F3:=Hd (f.out.drew.go p);refine I _ _ ⟨?_,G _ _ ?_⟩;clear I V G K;·exact bq p _
    clear p v0 v1 v2 v3 t0 t1 t2 t3;refine lit ?_;refine eH ?_;refine aK ?_;refine lit ?_;gi_wp2;exact⟨rfl,.tuple #[.int .i64 (b:Nat),.bool (z==0)],by simp[results,go_sem],by rw[HZ.out],F3.out.bl⟩
   have HZ:=Hd (show Z=false by rw[<-D.u];unfold aav;rw[D.a,fW (by rw[HM.u];omega)]);clear J;gi_wp2;refine ak [] (List.range 16) pk pk ?_;refine eH ?_;refine aK ?_;refine lit ?_;gi_wp2;exact⟨rfl,.tuple #[.int .i64 (b:Nat),false],by simp[results,go_sem],by rw[HZ.out],f.out.drew.bl⟩
end
