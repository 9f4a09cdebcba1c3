/- Lemmas. -/
import Derived.Test.YtfdmnogfflcllaaGreatDoorM40
import Derived.Test.YtfdmnogfflcllaaGreatDoorM37
set_option linter.unusedVariables false
set_option linter.unusedSimpArgs false
set_option maxRecDepth 100000
set_option maxHeartbeats 20000000
namespace Go.Proofs.YtfdmnogfflcllaaGreatDoor
open Go.Proofs.Tryz
theorem AO{p:Prop}(h:p:=by
 refine ent func29 rfl ntmps29 ?_
 gi_wp2_with (first
  |(have g:=h.out;clear g;refine Cl 30 (aaP _ _) ?_;rintro e B ⟨rfl,rfl⟩)
  |(have g:=f.out;clear g;refine Cl 65 (aax _) ?_;rintro e J ⟨rfl,rfl⟩;have h:=Hd trivial)
  |(refine Cl 66 j.out ?_;rintro e v ⟨rfl,d⟩;replace F:=Hd (F.out.go d);have z:=aW F.out;have f:=Hd trivial;clear d)
  |(refine⟨bq,?_⟩))
 exact⟨rfl,rfl,F.out.bl⟩):p:=h
variable {a b:Rt}{n:Nat}{t1 t2 t3 t4:dK}{A:Option Addr}
theorem aav{s:List (List Int)}{q:Nat×Nat}{m:Int}{i:Nat}:(aw s q m).getD i []=if q.1=i then(s.getD i []).set q.2 m else s.getD i []:=by
 unfold aw;by_cases e:q.1=i
 ·subst e;rw[if_pos rfl];by_cases d:q.1<s.length;·rw[aaM d]
  rw[my (mi d),cx,fL (mi d)];rfl
 rw[if_neg e,mnq e]
theorem aaE{s:List (List Int)}{q:Nat×Nat}{m:Int}:(aw s q m).length=s.length:=by simp[aw]
structure AgM(L:List (Nat×Nat))(s t:List (List Int)):Prop where
 len:s.length=t.length
 row:∀i,(s.getD i []).length=(t.getD i []).length
 at_:∀i k,(i,k)∉L->(s.getD i []).getD k 0=(t.getD i []).getD k 0
section
variable {L:List (Nat×Nat)}{s t u:List (List Int)}{q:Nat×Nat}{m:Int}
theorem AgM.refl(L:List (Nat×Nat))(s:List (List Int)):AgM L s s:=⟨rfl,fun _=>rfl,fun _ _ _=>rfl⟩
theorem AgM.trans(h:AgM L s t)(g:AgM L t u):AgM L s u:=⟨h.len.trans g.len,fun i=>(h.row i).trans (g.row i),fun i k e=>(h.at_ i k e).trans (g.at_ i k e)⟩
theorem AgM.mono{L':List (Nat×Nat)}(h:AgM L s t)(hs:∀r,r∈L->r∈L'):AgM L' s t:=⟨h.len,h.row,fun i k g=>h.at_ i k fun e=>g (hs _ e)⟩
theorem adY{l:List Int}{k:Nat}(h:¬k<l.length):l.getD k 0=0:=by rw[cx,fL oE];rfl
theorem abu{l:List Int}{k j:Nat}{m:Int}:(l.set k m).getD j 0=if k=j/\j<l.length then m else l.getD j 0:=by
 by_cases e:k=j
 ·subst e;by_cases d:k<l.length;·rw[if_pos ⟨rfl,d⟩,aaM d]
  rw[if_neg (fun h=>d h.2),my (mi d)]
 rw[if_neg (fun h=>e h.1),mnq e]
theorem AgM.put(h:AgM (q::L) s t):AgM L (aw s q m) (aw t q m):=by
 refine⟨by rw[aaE,aaE,h.len],fun i=>?_,fun i k g=>?_⟩
 ·rw[aav,aav];split;·rw[fI,fI,h.row]
  exact h.row i
 rw[aav,aav];split
 ·next e=>
  rw[abu,abu,h.row i];split;·rfl
  next e2=>
  by_cases j:q.2=k
  ·have f:¬k<(t.getD i []).length:=fun f=>e2 ⟨j,f⟩;have o:¬k<(s.getD i []).length:=by rw[h.row i];exact f
   rw[adY f,adY o]
  exact h.at_ i k fun d=>by
   rcases cB.1 d with d|d;·exact j (by rw[<-d])
   exact g d
 next e=>
 exact h.at_ i k fun d=>by
  rcases cB.1 d with d|d;·exact e (by rw[<-d])
  exact g d
theorem adE(hq:q∈L):AgM L s (aw s q m):=by
 refine⟨aaE.symm,fun i=>?_,fun i k g=>?_⟩
 ·rw[aav];split;·rw[fI]
  rfl
 rw[aav];split
 ·next e=>
  rw[abu,if_neg];rintro⟨N,-⟩;exact g (by rw[<-e,<-N];exact hq)
 rfl
theorem AgM.eq(h:AgM [] s t):s=t:=by refine lB h.len fun i f g=>?_;have B:=h.row i;have d:=h.at_ i;simp only[cx,bX f,bX g,eT]at B d;refine lB B fun k j D=>?_;have:=d k oO;simpa only[bX j,bX D,eT]using this
end
theorem ade{cs:List bT}:∀{L:List (Nat×Nat)}{s t:List (List Int)},AgM L s t->comps cs L s=comps cs L t
 | [],_,_,h=>by rw[h.eq]
 |q::L,s,t,h=>by rw[comps,comps];have:(fun m=>comps cs L (aw s q m))=fun m=>comps cs L (aw t q m):=funext fun m=>ade h.put;rw[this]
theorem ab3{cs:List bT}:∀{L:List (Nat×Nat)}{s x:List (List Int)},L.Nodup->x∈comps cs L s->AgM L s x/\∀q,q∈L->q.2<(s.getD q.1 []).length->(x.getD q.1 []).getD q.2 0∈ao (cs.getD q.1 aao)
 | [],s,x,_,h=>by rw[comps,bE]at h;subst h;exact⟨AgM.refl _ _,fun q hq=>by cases hq⟩
 |q::L,s,x,hn,h=>by
  rw[comps,List.mem_flatMap]at h;rw[iX]at hn;obtain⟨m,hm,h⟩:=h;obtain⟨h1,h2⟩:=ab3 hn.2 h;refine⟨((adE cd).trans (h1.mono fun r hr=>bz _ hr)),fun r hr hl=>?_⟩;rcases cB.1 hr with rfl|hr;·rw[<-h1.at_ r.1 r.2 hn.1,aav,if_pos rfl,abu,if_pos ⟨rfl,hl⟩];exact hm
  refine h2 r hr ?_;rw[aav];split;·rwa [fI]
  exact hl
theorem ab4{i:Nat}:∀{l:List Int}{k b:Nat},(i,b)∈an i k l↔k<=b/\l[b-k]?=some (-1)
 | [],k,b=>by simp[an]
 |m::l,k,b=>by
  unfold an;have ih:= @ab4 i l (k+1) b;by_cases e:b=k
  ·subst e;have hn:¬(b+1<=b/\l[b-(b+1)]?=some (-1)):=oE;split;·next hm=>subst hm;simp
   next hm=>
   rw[ih];constructor;·rintro⟨h,-⟩;omega
   rintro⟨-,h⟩;simp at h;exact absurd h hm
  have hd:b-k=(b-(k+1))+1\/b<k:=oE;have h1:(k<=b/\(m::l)[b-k]?=some (-1))↔(k+1<=b/\l[b-(k+1)]?=some (-1)):=by
   constructor
   ·rintro⟨a,c⟩;rcases hd with hd|hd;·rw[hd,fv]at c;exact⟨oE,c⟩
    omega
   rintro⟨a,c⟩;rcases hd with hd|hd;·rw[hd,fv];exact⟨oE,c⟩
   omega
  rw[h1];split
  ·rw[cB,ih];constructor
   ·rintro(h|h);·cases h;exact absurd rfl e
    exact h
   exact .inr
  exact ih
theorem aaV:∀{s:List (List Int)}{i a b:Nat},(a,b)∈aa i s↔i<=a/\∃l,s[a-i]?=some l/\l[b]?=some (-1)
 | [],i,a,b=>by simp[aa]
 |l::s,i,a,b=>by
  rw[aa,cR, @aaV s (i+1) a b];by_cases e:a=i
  ·subst e;rw[ab4];simp only[bO,true_and,ga,Nat.sub_zero,ie,me,exists_eq_left',bh];constructor
   ·rintro(h|⟨h,-⟩);·exact h
    omega
   exact .inl
  constructor
  ·rintro(h|⟨h1,h⟩);·exact absurd (aar h).1 e
   refine⟨oE,?_⟩;rw[show a-i=(a-(i+1))+1 by omega,fv];exact h
  rintro⟨h1,h⟩;rw[show a-i=(a-(i+1))+1 by omega,fv]at h;exact .inr ⟨oE,h⟩
theorem adF{cs:List bT}{s x:List (List Int)}{p:Int}(hc:∀c,c∈cs->rC c)(hl:s.length=cs.length)(hs:((cs.zip s).all fun q=>jc q.1 p q.2)=true)(hx:x∈comps cs (aa 0 s) s):
 x.length=cs.length/\((cs.zip x).all fun q=>jc q.1 p q.2)=true/\eY x=0/\∀l,l∈x->(l.length:Int)=p:=by
 obtain⟨B,Q⟩:=ab3 aaA hx;rw[cQ]at hs;have H:∀(i:Nat) (c:bT) (l y:List Int),cs[i]?=some c->s[i]?=some l->x[i]?=some y->(y.length:Int)=p/\∀(k:Nat) (m:Int),y[k]?=some m->Nv (rX c) m=true:=by
  intro i c l y C v J;have hb:=hs (c,l) (aR (oG C v));unfold jc at hb;rw[cJ,eZ,cQ]at hb;have G:=B.row i;have I:=B.at_ i;have R:=Q;simp only[cx,v,J,eT]at G I;refine⟨by rw[<-G];exact hb.1,fun k m h=>?_⟩;have j:k<l.length:=by rw[G];exact(bj.1 h).1
  by_cases F:(i,k)∈aa 0 s;·have g:=R (i,k) F (by simp only[cx,v,eT];exact j);simp only[cx,J,eT,h,C]at g;exact(abE (hc c (aR C))).1 g
  have g:=I k F;rw[h,bX j,eT,eT]at g;have D:=hb.2 _ (gm j);unfold oD at D;rw[g,ik,eZ]at D;refine D.resolve_left fun e=>F (aaV.2 ⟨bO _,l,v,?_⟩);rw[bX j,g,e]
 have U:x.length=cs.length:=by rw[<-B.len];exact hl
 have z:∀i,i<cs.length->∃c l y,cs[i]?=some c/\s[i]?=some l/\x[i]?=some y:=fun i d=>⟨_,_,_,bX d,bX oE,bX oE⟩;refine⟨U,cQ.2 fun q T=>?_,?_,fun l S=>?_⟩
 ·obtain⟨i,d,e⟩:=nz.1 T;rw[jx]at d;obtain⟨c,l,y,E,P,f⟩:=z i oE;have N:(cs.zip x)[i]?=some q:=by rw[bX (by rw[jx];exact d),e]
  rw[oG E f]at N;cases N;obtain⟨V,W⟩:=H i c l y E P f;unfold jc;rw[cJ,eZ,cQ];refine⟨V,fun m o=>?_⟩;obtain⟨k,h⟩:=fS o;unfold oD;rw[W k m h,Bool.or_true]
 ·by_cases o:eY x=0;·exact o
  exfalso;obtain⟨O,g,D⟩:=Py o;obtain⟨i,d⟩:=fS g;obtain⟨k,h⟩:=fS D;obtain⟨c,l,y,E,P,f⟩:=z i (by have:=(bj.1 d).1;omega);rw[d]at f;cases f;have K:=(H i c l _ E P d).2 k _ h;have X:=(hc c (aR E)).1;unfold Nv rX at K;rw[eZ]at K;have Y:c.2.1<= -1:=K.1;omega
 ·obtain⟨i,d⟩:=fS S;obtain⟨c,O,y,E,P,f⟩:=z i (by have:=(bj.1 d).1;omega);rw[d]at f;cases f;exact(H i c O _ E P d).1
def ax(l:List Rt):Rt:=l.getD 0 zR
def az(l:List Rt):Rt:=l.getD (l.length-1) zR
def aaw(g:List Rt->Rt)(all:List (List Rt))(e:Nat)(x:Rt):Nat:=(List.range all.length).countP fun i=>decide (i≠e)&&decide (0<rW (g (all.getD i [])) x)
def aay(all:List (List Rt))(e:Nat):List Nat:=(List.range (all.length+1)).filter fun n=>(all.getD e []).any fun x=>decide (aaw ax all e x+1<=n)&&decide (n<=aaw az all e x+1)
structure aaF(l:List Rt):Prop where
 ok:∀y,y∈l->y.ok
 ris:acS l
 ne:l≠ []
theorem adG:∀{l:List Rt},acS l->∀{i j:Nat}{x y:Rt},l[i]?=some x->l[j]?=some y->i<j->rW x y<0
 |z::l,h,0,j+1,x,y,hi,hj,_=>by cases hi;exact h.1 y (aR (by simpa using hj))
 |z::l,h,i+1,j+1,x,y,hi,hj,hij=>adG h.2 (by simpa using hi) (by simpa using hj) oE
section
variable {l k:List Rt}
theorem aaF.head(h:aaF l):ax l∈l:=by have:=e_.2 h.ne;unfold ax;rw[cx,bX this];exact gm _
theorem aaF.last(h:aaF l):az l∈l:=by have:=e_.2 h.ne;unfold az;rw[cx,bX (show l.length-1<l.length by omega)];exact gm _
theorem aaF.low(h:aaF l){y:Rt}(hy:y∈l):rW (ax l) y<=0:=by
 obtain⟨i,d,rfl⟩:=nz.1 hy;have R:=e_.2 h.ne;have e:ax l=l[0]:=by unfold ax;rw[cx,bX R];rfl
 rw[e];by_cases f:i=0;·subst f;rw[acH];exact Int.le_refl 0
 exact Int.le_of_lt (adG h.ris (bX R) (bX d) oE)
theorem aaF.high(h:aaF l){y:Rt}(hy:y∈l):rW y (az l)<=0:=by
 obtain⟨i,f,rfl⟩:=nz.1 hy;have R:=e_.2 h.ne;have d:l.length-1<l.length:=oE;have e:az l=l[l.length-1]:=by unfold az;rw[cx,bX d];rfl
 rw[e];by_cases g:i=l.length-1;·subst g;rw[acH];exact Int.le_refl 0
 exact Int.le_of_lt (adG h.ris (bX f) (bX d) oE)
end
theorem acT{c:Rt}(ha:a.ok)(hb:b.ok)(hc:c.ok)(h1:rW a b<=0)(h2:0<rW a c):0<rW b c:=by
 have d:rW c a<0:=by have:=aaB a c;omega
 have D:rW c b<0:=(aaT hc hb).2 (Std.lt_of_lt_of_le ((aaT hc ha).1 d) ((abY ha hb).1 h1));have:=aaB c b;omega
structure ab5(all new:List (List Rt)):Prop where
 len:new.length=all.length
 old:∀i,i<all.length->aaF (all.getD i [])
 nw:∀i,i<all.length->aaF (new.getD i [])
 sub:∀i,i<all.length->∀x,x∈new.getD i []->x∈all.getD i []
section
variable {all new:List (List Rt)}{e:Nat}{x:Rt}
theorem ab5.low(h:ab5 all new)(hx:x.ok):aaw ax all e x<=aaw ax new e x:=by unfold aaw;rw[h.len];refine nj fun i d f=>?_;rw[fy]at d;rw[cJ]at f |-;refine⟨f.1,cw ?_⟩;have o:=h.old i d;have n:=h.nw i d;exact acT (o.ok _ o.head) (n.ok _ n.head) hx (o.low (h.sub i d _ n.head)) (cW f.2)
theorem ab5.high(h:ab5 all new)(hx:x.ok):aaw az new e x<=aaw az all e x:=by unfold aaw;rw[h.len];refine nj fun i d f=>?_;rw[fy]at d;rw[cJ]at f |-;refine⟨f.1,cw ?_⟩;have o:=h.old i d;have n:=h.nw i d;exact acT (n.ok _ n.last) (o.ok _ o.last) hx (o.high (h.sub i d _ n.last)) (cW f.2)
theorem ab5.ranks(h:ab5 all new)(he:e<all.length)(hn:n∈aay new e):n∈aay all e:=by unfold aay at hn |-;rw[List.mem_filter]at hn |-;rw[h.len]at hn;refine⟨hn.1,?_⟩;obtain⟨x,hx,d⟩:=iz.1 hn.2;refine iz.2 ⟨x,h.sub e he x hx,?_⟩;rw[cJ,eZ,eZ]at d |-;have ok:=(h.nw e he).ok x hx;have:=h.low (e:=e) ok;have:=h.high (e:=e) ok;omega
end
theorem aeQ{all:List (List Rt)}{e:Nat}{x:Rt}(h:∀i,i<all.length->aaF (all.getD i []))(hx:x.ok):aaw ax all e x<=aaw az all e x:=by unfold aaw;refine nj fun i f d=>?_;rw[fy]at f;rw[cJ]at d |-;refine⟨d.1,cw ?_⟩;have o:=h i f;exact acT (o.ok _ o.head) (o.ok _ o.last) hx (o.low o.last) (cW d.2)
theorem aeR{g:List Rt->Rt}{all:List (List Rt)}{e:Nat}{x:Rt}(he:e<all.length):aaw g all e x<all.length:=by unfold aaw;have d:=List.countP_le_length (p:=fun i=>decide (i≠e)&&decide (0<rW (g (all.getD i [])) x)) (l:=List.range all.length);have f:=List.countP_eq_length (p:=fun i=>decide (i≠e)&&decide (0<rW (g (all.getD i [])) x)) (l:=List.range all.length);rw[fR]at d f;refine Nat.lt_of_le_of_ne d fun G=>?_;have:=f.1 G e (fy.2 he);simp at this
theorem aeS{all:List (List Rt)}{e:Nat}(h:∀i,i<all.length->aaF (all.getD i []))(he:e<all.length):aay all e≠ []:=by
 have o:=h e he;have hx:=o.ok _ o.head;intro d;have:aaw ax all e (ax (all.getD e []))+1∈aay all e:=by unfold aay;rw[List.mem_filter,fy];refine⟨by have:=aeR (g:=ax) (x:=ax (all.getD e [])) he;omega,iz.2 ⟨_,o.head,?_⟩⟩;rw[cJ,eZ,eZ];have:=aeQ (e:=e) h hx;omega
 rw[d]at this;cases this
def mkC(c:dS)(s:List (List Int)):dS:=⟨s,c.bonus,c.malus,c.prev⟩
def aal(r:aS)(c:dS):List (List (List Int)):=comps r.aT (aa 0 c.marks) c.marks
def aah(r:aS)(c:dS):Nat:=manyN r.aT (aa 0 c.marks)
def aaG(r:aS)(x:aJ)(c:dS)(s:List (List Int)):Rt:=rG (kW r (mkC c s)) (au x)
def af(r:aS)(x:aJ)(c:dS):List Rt:=aaf [] ((aal r c).map (aaG r x c))
section
variable {r:aS}{c:dS}{x:aJ}{k:Nat}{s:List (List Int)}
theorem acK(hg:f_ r k c)(hs:s∈aal r c):f_ r k (mkC c s)/\eY s=0:=by obtain⟨x,hx,I⟩:=Zi hg;have d:=hg.1;unfold kS at I;simp only[cJ,du]at I;obtain⟨f,g,h,-⟩:=adF (p:=x.2.1) d.2.1.aT I.1.1.1.1.1 I.1.2 hs;refine⟨⟨d,k,x,rfl,hx,?_⟩,h⟩;unfold kS mkC;simp only[cJ,du];exact⟨⟨⟨⟨⟨f,I.1.1.1.1.2⟩,I.1.1.1.2⟩,I.1.1.2⟩,g⟩,I.2⟩
theorem adZ(hw:yI r c)(hs:s∈aal r c):yI r (mkC c s):=by obtain⟨h,-⟩:=ab3 aaA hs;refine⟨hw.fw,hw.parts,⟨by show s.length<=_;rw[<-h.len];exact hw.lens.1,hw.lens.2⟩,fun l g=>?_,hw.prev⟩;obtain⟨i,d⟩:=fS (show l∈s from g);have f:=(bj.1 d).1;have B:=h.row i;rw[cx,cx,d,bX (by rw[h.len];exact f),eT,eT]at B;rw[<-B];exact hw.mark _ (gm _)
theorem abv(hg:f_ r k c)(hw:yI r c)(hx:r.rounds[k]?=some x)(hp:x.2.2.2.2.1=false)(hs:s∈aal r c):yx (aaG r x c s) 300:=by obtain⟨E,P⟩:=acK hg hs;have d:=hw.parts x (aR hx);exact(aeM (aeN E (adZ hw hs) P) (au x) d (afS hg.1 hx hp)).up oE
end
theorem abI:∀{xs l:List Rt},(∀y,y∈l->y.ok)->(∀y,y∈xs->y.ok)->acS l->acS (aaf l xs)
 | [],_,_,_,h=>h
 |x::xs,l,h,g,hr=>by have hx:=g x cd;exact abI (xs:=xs) (adX hx h) (fun y hy=>g y (bz _ hy)) (adb hx h hr)
section
variable {r:aS}{c:dS}{x:aJ}{k:Nat}{y:Rt}
theorem aaW(hg:f_ r k c)(hw:yI r c)(hx:r.rounds[k]?=some x)(hp:x.2.2.2.2.1=false):y∈af r x c↔∃s,s∈aal r c/\aaG r x c s=y:=by unfold af;rw[abG (fun y g=>by cases g) (fun y g=>by obtain⟨s,hs,rfl⟩:=ev.1 g;exact(abv hg hw hx hp hs).ok),ev];simp
theorem acL(hg:f_ r k c)(hw:yI r c)(hx:r.rounds[k]?=some x)(hp:x.2.2.2.2.1=false)(hy:y∈af r x c):yx y 300:=by obtain⟨s,hs,rfl⟩:=(aaW hg hw hx hp).1 hy;exact abv hg hw hx hp hs
theorem aaH(hg:f_ r k c)(hw:yI r c)(hx:r.rounds[k]?=some x)(hp:x.2.2.2.2.1=false):aaF (af r x c):=by
 refine⟨fun y g=>(acL hg hw hx hp g).ok,abI (fun y g=>by cases g) (fun y g=>?_) trivial,fun e=>?_⟩;·obtain⟨s,hs,rfl⟩:=ev.1 g;exact(abv hg hw hx hp hs).ok
 have d:=abb r.aT (aa 0 c.marks) c.marks;have f:=ab2 r.aT (aa 0 c.marks);obtain⟨s,hs⟩:∃s,s∈aal r c:=List.exists_mem_of_length_pos (by unfold aal;omega);have:=(aaW hg hw hx hp).2 ⟨s,hs,rfl⟩;rw[e]at this;cases this
theorem adH{q:Nat×Nat}{m:Int}(hg:f_ r k c)(hw:yI r c)(hx:r.rounds[k]?=some x)(hp:x.2.2.2.2.1=false)(hq:q∈aa 0 c.marks)(hm:m∈ao (r.aT.getD q.1 aao))(hm1:m≠ -1)
 (hg':f_ r k (mkC c (aw c.marks q m))) (hw':yI r (mkC c (aw c.marks q m))) (hy:y∈af r x (mkC c (aw c.marks q m))):y∈af r x c:=by
 obtain⟨s,hs,rfl⟩:=(aaW hg' hw' hx hp).1 hy;refine(aaW hg hw hx hp).2 ⟨s,?_,rfl⟩;unfold aal at hs |-;have e:=abp (s:=c.marks) (i:=0) (a:=q.1) (b:=q.2) hm1;rw[dm]at e;have d:s∈comps r.aT (aa 0 (aw c.marks q m)) (aw c.marks q m):=hs;rw[show aa 0 (aw c.marks q m)=_ from e]at d;exact acJ hm aaA hq d
end
def aaO(x:Rt):List Rt->Nat
 | []=>0
 |y::l=>if rW y x<0 then aaO x l+1 else 0
def aas(x:Rt)(l:List Rt):Bool:=match l[aaO x l]? with
 |some y=>decide (rW y x=0)
 |none=>false
theorem acU(x:Rt):∀l,aaO x l<=l.length
 | []=>bh _
 |y::l=>by
  unfold aaO;split;·have:=acU x l;simp only[et];omega
  exact bO _
theorem acV(x:Rt):∀l,abo x l=if aas x l=true then l else l.take (aaO x l)++x::l.drop (aaO x l)
 | []=>rfl
 |y::l=>by
  have ih:=acV x l;unfold abo;by_cases h:rW y x<0
  ·rw[if_pos h,ih];have e:aaO x (y::l)=aaO x l+1:=by rw[aaO,if_pos h]
   have N:aas x (y::l)=aas x l:=by unfold aas;rw[e,fv]
   rw[N,e];split<;>simp
  rw[if_neg h];have e:aaO x (y::l)=0:=by rw[aaO,if_neg h]
  have N:aas x (y::l)=decide (rW y x=0):=by unfold aas;rw[e];rfl
  rw[N,e];by_cases d:rW y x=0;·rw[if_pos d,if_pos (cw d)]
  rw[if_neg d,if_neg (by simpa using d)];rfl
theorem aeT{x:Rt}:∀{l:List Rt}{j:Nat}{y:Rt},j<aaO x l->l[j]?=some y->rW y x<0
 |z::l,j,y,hj,hy=>by
  unfold aaO at hj;split at hj
  ·next h=>
   match j,hj,hy with
   |0,_,hy=>cases hy;exact h
   |j+1,hj,hy=>exact aeT (l:=l) (j:=j) oE (by simpa using hy)
  omega
theorem aeU{x:Rt}(hx:x.ok):∀{l:List Rt}{j:Nat}{y:Rt},(∀y,y∈l->y.ok)->acS l->aaO x l<=j->l[j]?=some y->0<=rW y x/\(aaO x l<j->0<rW y x)
 |z::l,j,y,ho,hr,hj,hy=>by
  unfold aaO at hj |-;by_cases h:rW z x<0
  ·rw[if_pos h]at hj |-
   match j,hj,hy with
   |j+1,hj,hy=>have:=aeU hx (l:=l) (j:=j) (y:=y) (fun y hy=>ho y (bz _ hy)) hr.2 oE (by simpa using hy);exact⟨this.1,fun h=>this.2 oE⟩
  rw[if_neg h]at hj |-
  match j,hy with
  |0,hy=>cases hy;exact⟨oE,fun h=>absurd h oE⟩
  |j+1,hy=>
   have hm:=aR (show l[j]?=some y by simpa using hy);have h1:=hr.1 y hm;have oz:=ho z cd;have oy:=ho y (bz _ hm);have h2:rW x z<=0:=by have:=aaB z x;omega
   have d:rW x y<0:=(aaT hx oy).2 (Std.lt_of_le_of_lt ((abY hx oz).1 h2) ((aaT oz oy).1 h1));have:=aaB x y;exact⟨oE,fun _=>by omega⟩
section
open Go.RowKit Go.Shelf
attribute [local go_sem] cK
theorem aaq(k:Int)(w:World):Calls prog 30 #[.bool true,.int .i64 k] w fun e w'=>e=.returned (.tuple #[])/\w=w':=by refine wid ?_;refine ent func30 rfl ntmps30 ?_;gi_wp2;go_end0;exact⟨rfl,rfl⟩
theorem aaP(k:Int)(w:World):Calls prog 30 #[.bool false,.int .i64 k] w fun e w'=>e=Wx k/\w=w':=by refine wid ?_;refine ent func30 rfl ntmps30 ?_;gi_wp2;exact⟨rfl,rfl,rfl⟩
theorem aax(w:World):Calls prog 65 #[.int .i64 0] w fun e w'=>e=.returned (.tuple #[])/\w=w':=by
 refine wid ?_;refine ent func65 rfl ntmps65 ?_
 gi_wp2_with (first
  |(refine Cl 30 (aaq _ _) ?_;rintro e h ⟨rfl,rfl⟩)
  |fail)
 go_end0;exact⟨rfl,rfl⟩
theorem aee(k:Int)(hk:k≠0)(w:World):Calls prog 65 #[.int .i64 k] w fun e w'=>e=Wx k/\w=w':=by
 refine wid ?_;have d:(k==0)=false:=cU.2 hk;clear hk;refine ent func65 rfl ntmps65 ?_
 gi_wp2_with (first
  |(refine Cl 30 (aaP _ _) ?_;rintro e h ⟨rfl,rfl⟩)
  |fail)
 exact⟨rfl,rfl,rfl⟩
theorem aam(p:Addr)(x y:Int)(older:List PanicEntry)(w:World)(hc:w.cell? p=some (.int .i64 y))(hf:w.frozen? p=false):
 CallsDIn Fence.wide n prog 28 #[.pointer (some p)] (.panicking ({ v:=Tj x,recovered:=false }::older)) w fun e u' w'=>e=.returned (.tuple #[])/\u'=.panicking ({ v:=Tj x,recovered:=true }::older)/\w'=w.setCell p (.int .i64 x):=by
 refine callsDIn_of_wpSIn func28 rfl trivial fun c₀ cs hu=>?_;apply wpSIn_seq;apply wpSIn_region;simp[wpOpsSIn,go_sem,recoverD,hu,ntmps28,Exit.thenS];refine wpSIn_of_wpIn rfl ?_;refine mU (Q:=fun e d w'=>e=.normal/\d.defers= []/\w'=w.setCell p (.int .i64 x)) ?_ ?_;rotate_left;·rintro e d w' ⟨rfl,f,rfl⟩;simp[bodyPostS,results,results28,f]
 clear hu;have g:=Ee x;simp only[gH,gL,iG,fk,de,dx,eE,fl,eQ];gi_wp2
theorem abx(p:Addr)(w:World):
 CallsDIn Fence.wide n prog 28 #[.pointer (some p)] .returning w fun e u' w'=>e=.returned (.tuple #[])/\u'=.returning/\w'=w:=by
 refine callsDIn_of_wpSIn func28 rfl trivial fun c₀ cs hu=>?_;apply wpSIn_seq;apply wpSIn_region;simp[wpOpsSIn,go_sem,recoverD,hu,ntmps28,Exit.thenS];refine wpSIn_of_wpIn rfl ?_;refine mU (Q:=fun e d w'=>e=.normal/\d.defers= []/\w'=w) ?_ ?_;rotate_left;·rintro e d w' ⟨rfl,f,rfl⟩;cases c₀;simp_all[bodyPostS,results,results28,f]
 clear hu;simp only[gH,gL,iG,fk,de,dx,eE,fl,eQ];gi_wp2
abbrev evV(r:aS)(s1 s2 s3 s4 s5 s6 s7:dK)(i:Int):List Value:= [.string r.name,.slice s1.A s1.n s1.c,.slice s2.A s2.n s2.c,.slice s3.A s3.n s3.c,.slice s4.A s4.n s4.c,.slice s5.A s5.n s5.c,.slice s6.A s6.n s6.c,.slice s7.A s7.n s7.c,.int .i64 r.best,.int .i64 i]
section
variable {M:List Nat}{r:aS}{s1 s2 s3 s4 s5 s6 s7:dK}{w:World}{i:Int}
theorem aef(hr:dG w M r s1 s2 s3 s4 s5 s6 s7)(hs:Sound r)(ht:Tab w)(hM:b_ M w)(hi:i<0\/(r.rounds.length:Int)<=i):
 Calls prog 29 #[.agg (aV r s1 s2 s3 s4 s5 s6 s7).toArray,.int .i64 i] w fun e w'=>e=Wx 1/\Below w w w':=by
 refine wid ?_;obtain⟨W1,C,F1⟩:=dR (((Fr.nil w).a w (aV r s1 s2 s3 s4 s5 s6 s7) 28).a (w+1) [.string ⟨#[]⟩,.slice none 0 0,.slice none 0 0,.slice none 0 0,.slice none 0 0,.slice none 0 0,.slice none 0 0,.slice none 0 0,.int .i64 0,.int .i64 0] 79);have z:=aW F1;have F:=Hd F1;obtain⟨G,T⟩:=hs.2.2.1;have j:=Hd (Pq (hr.go F1.bl) hs.1 hs.2.1 T hs.2.2.2 (tab_below ht F1.bl) (hM.le F1.bl.size));have p:=hr.rounds.len;have D:=hr.rounds.small;clear F1 hr hs hM ht T;by_cases R:i<0;·have o:(decide (0<=i))=false:=cE oE;have E:(decide (i>=0))=false:=cE oE;clear hi;exact AO
 ·have o:(decide (0<=i))=true:=cw oE;have P:(decide (i>=0))=true:=cw oE;have E:(decide (i<((s5.n:Nat):Int)))=false:=cE oE;clear hi R p;exact AO
theorem aa7{i:Nat}(hr:dG w M r s1 s2 s3 s4 s5 s6 s7)(hs:Sound r)(ht:Tab w)(hM:b_ M w)(hi:i<r.rounds.length):
 CB 29 #[.agg (aV r s1 s2 s3 s4 s5 s6 s7).toArray,.int .i64 i] (.agg (evV r s1 s2 s3 s4 s5 s6 s7 i).toArray) w:=by
 refine wid ?_;obtain⟨W1,Q,F1⟩:=dR (((Fr.nil w).a w (aV r s1 s2 s3 s4 s5 s6 s7) 28).a (w+1) [.string ⟨#[]⟩,.slice none 0 0,.slice none 0 0,.slice none 0 0,.slice none 0 0,.slice none 0 0,.slice none 0 0,.slice none 0 0,.int .i64 0,.int .i64 0] 79);have K:=aW F1;have F:=Hd F1;obtain⟨S,T⟩:=hs.2.2.1;have p:=Hd (Pq (hr.go F1.bl) hs.1 hs.2.1 T hs.2.2.2 (tab_below ht F1.bl) (hM.le F1.bl.size));have J:=hr.rounds.len;have R:=hr.rounds.small;clear F1 hr hs hM ht T;have O:((i:Nat):Int)>=0:=oE;have P:((i:Nat):Int)<((s5.n:Nat):Int):=oE;clear hi J;refine ent func29 rfl ntmps29 ?_
 gi_wp2_with (first
  |(have g:=o.out;clear g;refine Cl 30 (aaq _ _) ?_;rintro e W ⟨rfl,rfl⟩)
  |(have g:=j.out;clear g;refine Cl 65 (aax _) ?_;rintro e V ⟨rfl,rfl⟩;have o:=Hd trivial)
  |(refine Cl 66 p.out ?_;rintro e N ⟨rfl,d⟩;replace F:=Hd (F.out.go d);have K:=aW F.out;have j:=Hd trivial;clear d)
  |(refine⟨bq,?_⟩))
 have f:=F.out.only (L':= [(w+1, [.string ⟨#[]⟩,.slice none 0 0,.slice none 0 0,.slice none 0 0,.slice none 0 0,.slice none 0 0,.slice none 0 0,.slice none 0 0,.int .i64 0,.int .i64 0])]) (fun x hx=>by simp at hx;simp[hx]);refine(fun(h:∀U,fM N (w.heap.size+1) 0 (evV r s1 s2 s3 s4 s5 s6 s7 i)=U->bodyPost _ _ _ _ _ U)=>h _ rfl) ?_;intro U I;obtain⟨f2,-⟩:=f.abl (us:=evV r s1 s2 s3 s4 s5 s6 s7 i) rfl I;have v:=f2.aQ 0 0;have C:=f2.aQ 0 1;have z:=f2.aQ 0 2;have B:=f2.aQ 0 3;have D:=f2.aQ 0 4;have c5:=f2.aQ 0 5;have E:=f2.aQ 0 6;have c7:=f2.aQ 0 7;have G:=f2.aQ 0 8;have H:=f2.aQ 0 9;exact⟨rfl,.agg (evV r s1 s2 s3 s4 s5 s6 s7 i).toArray,by simp[results,results29,go_sem,v,C,z,B,D,c5,E,c7,G,H],rfl,f2.bl⟩
theorem ab_{c:dS}(hr:dG w M r s1 s2 s3 s4 s5 s6 s7)(hc:jE w M c t1 t2 t3 t4)(hs:Sound r)(hk:vF r i c=0)(ht:Tab w)(hM:b_ M w):
 CB 31 #[.agg (evV r s1 s2 s3 s4 s5 s6 s7 i).toArray,.agg (dI t1 t2 t3 t4).toArray] (.tuple #[]) w:=by
 refine wid ?_;obtain⟨W1,j,F1⟩:=dR (((Fr.nil w).a w (evV r s1 s2 s3 s4 s5 s6 s7 i) 79).a (w+1) (dI t1 t2 t3 t4) 42);have z:=aW F1;have F:=Hd F1;have d:=Hd (rO (i:=i) (hr.go F1.bl) (hc.go F1.bl) hs (tab_below ht F1.bl) (hM.le F1.bl.size));rw[hk]at d;clear F1 hr hs hM ht hc hk;refine ent func31 rfl ntmps31 ?_
 gi_wp2_with (first
  |(have g:=h.out;clear g;refine Cl 65 (aax _) ?_;rintro e J ⟨rfl,rfl⟩)
  |(refine Cl 40 d.out ?_;rintro e o ⟨rfl,f⟩;replace F:=Hd (F.out.go f);have z:=aW F.out;have h:=Hd trivial;clear f)
  |fail)
 go_end0;exact⟨rfl,F.out.bl⟩
theorem aeg{c:dS}{K:Int}(hr:dG w M r s1 s2 s3 s4 s5 s6 s7)(hc:jE w M c t1 t2 t3 t4)(hs:Sound r)(hk:vF r i c=K)(h0:K≠0)(ht:Tab w)(hM:b_ M w):
 Calls prog 31 #[.agg (evV r s1 s2 s3 s4 s5 s6 s7 i).toArray,.agg (dI t1 t2 t3 t4).toArray] w fun e w'=>e=Wx K/\Below w w w':=by
 refine wid ?_;obtain⟨W1,j,F1⟩:=dR (((Fr.nil w).a w (evV r s1 s2 s3 s4 s5 s6 s7 i) 79).a (w+1) (dI t1 t2 t3 t4) 42);have z:=aW F1;have F:=Hd F1;have d:=Hd (rO (i:=i) (hr.go F1.bl) (hc.go F1.bl) hs (tab_below ht F1.bl) (hM.le F1.bl.size));rw[hk]at d;clear F1 hr hs hM ht hc hk;refine ent func31 rfl ntmps31 ?_
 gi_wp2_with (first
  |(have g:=h.out;clear g;refine Cl 65 (aee K h0 _) ?_;rintro e J ⟨rfl,rfl⟩)
  |(refine Cl 40 d.out ?_;rintro e o ⟨rfl,f⟩;replace F:=Hd (F.out.go f);have z:=aW F.out;have h:=Hd trivial;clear f)
  |fail)
 exact⟨rfl,rfl,F.out.bl⟩
end
theorem aad{M:List Nat}{va vb:Value}{w:World}(hM:b_ M w)(ha:QW w M va a)(hb:QW w M vb b)(oa:a.ok)(ob:b.ok)(hf:Fine a b):
 CB 35 #[va,vb] (.int .i64 (rW a b)) w:=by
 refine wid ?_;obtain⟨P,R,p,N,E,B,J,H,rfl,j⟩:=QC.of ha;obtain⟨Q,S,v,O,G,C,K,I,rfl,o⟩:=QC.of hb;obtain⟨W1,T,F1⟩:=dR (((Fr.nil w).a w [.bool P,.slice p N E,.bool R,.slice B J H] 48).a (w+1) [.bool Q,.slice v O G,.bool S,.slice C K I] 48);have U:=aW F1;have F:=Hd F1;have d:=Hd (WZ (hM.le F1.bl.size) (j.go F1.bl).qw (o.go F1.bl).qw oa ob hf);obtain⟨z,h⟩:=aC (rW a b);rw[h]at d |-;clear F1 ha hb j o hM oa ob hf h;refine ent func35 rfl ntmps35 ?_
 gi_wp2_with (first
  |(have g:=D.out;clear g;refine Cl 65 (aax _) ?_;rintro e W ⟨rfl,rfl⟩)
  |(refine Cl 14 d.out ?_;rintro e V ⟨rfl,f⟩;replace F:=Hd (F.out.go f);have D:=Hd trivial;clear f)
  |fail)
 go_ret;exact⟨rfl,F.out.bl⟩
abbrev SlR(w:World)(M:List Nat)(A:Option Addr)(n c:Nat)(l:List Rt):Prop:=Sl fC w M A n c (l.map jd)
theorem Sl.adn{w:World}{M:List Nat}{c k:Nat}{l:List Rt}{x:Rt}(h:SlR w M A n c l)(hk:l[k]?=some x):
 ∃b o p q A1 n1 c1 A2 n2 c2,A=some ⟨b,o,none⟩/\(w.cell? ⟨b,o+k*4,none⟩=some (.bool p)/\w.cell? ⟨b,o+k*4+1,none⟩=some (.slice A1 n1 c1)/\w.cell? ⟨b,o+k*4+2,none⟩=some (.bool q)/\w.cell? ⟨b,o+k*4+3,none⟩=some (.slice A2 n2 c2))/\QC w M x p q A1 n1 c1 A2 n2 c2:=by
 obtain⟨b,o,A1,n1,c1,A2,n2,c2,e,d,E,P,f,s1,s2⟩:=h.MG (x:=jd x) (by rw[cP,hk];rfl);exact⟨b,o,_,_,A1,n1,c1,A2,n2,c2,e,⟨d,E,P,f⟩,⟨rfl,s1⟩,⟨rfl,s2⟩⟩
structure ail(l:List Rt):Prop where
 ok:∀y,y∈l->y.ok
 sh:∀y,y∈l->Sh y
 ris:acS l
theorem abS{M:List Nat}{c:Nat}{l:List Rt}{v:Value}{x:Rt}{w:World}(hM:b_ M w)(hs:SlR w M A n c l)(hx:QW w M v x)(ho:ail l)(xo:x.ok)(xs:Sh x):
 CB 69 #[.slice A n c,v,.func (.func 35) #[] #[]] (.tuple #[.int .i64 (aaO x l:Nat),.bool (aas x l)]) w:=by
 refine wid ?_;have am:=hs.small;have aa:l.length=n:=by have:=hs.len;rwa [cC]at this
 obtain⟨p2,q2,X,n2,c2,Y,m2,d2,rfl,qx⟩:=QC.of hx;obtain⟨W1,af,F1⟩:=dR ((Fr.nil w).a w [.bool p2,.slice X n2 c2,.bool q2,.slice Y m2 d2] 48);have J:=aW F1;have F:=Hd F1;have H:=oK hs qx ho xo xs;have HM:=Hd2 hM aa;obtain⟨P,S⟩:=aC (aaO x l);have ab:P<=n:=by rw[<-S,<-aa];exact acU x l
 obtain⟨Z,V⟩:=aC (aas x l);rw[S,V];have D:=Hd2 S V;clear F1 hs hx qx ho xo xs hM S V;refine ent func69 rfl ntmps69 ?_;gi_wp2;clear J;gi_loopw[9,10] (fun i j wr=>∃a b:Nat,i=.int .i64 a/\j=.int .i64 b/\a<=P/\P<=b/\b<=n/\Hid (Fr w wr [(w, [.bool p2,.slice X n2 c2,.bool q2,.slice Y m2 d2])])) (fun i j _=>(intOf j).toNat-(intOf i).toNat);case atStart=>exact⟨0,n,rfl,rfl,bO _,ab,bh _,F⟩
 case round=>
  obtain⟨a,b,rfl,rfl,ha,hb,ac,f⟩:=hrel;have J:=aW f.out;by_cases al:a<b
  ·obtain⟨h,hh⟩:∃h:Nat,((a:Int)+(b:Int))/2=(h:Int):=⟨(a+b)/2,oE⟩;have ag:a<=h:=oE;have ai:h<b:=oE;obtain⟨y,o⟩:=dW l h (by rw[HM.u];omega);obtain⟨b3,o3,p3,q3,A3,n3,c3,B3,m3,d3,rfl,⟨N,O,Q,R⟩,qy⟩:=(H.a.go f.out.bl).adn o;have C:=aR o;have E:=Hd (aad (HM.a.le (w':=wr.drew) f.out.bl.size) (qy.go (bw wr wr).drew).qw ((H.b.go f.out.bl).go (bw wr wr).drew).qw (H.c.ok y C) H.d ((H.c.sh y C).fine H.x));obtain⟨z,B⟩:=aC (rW y x);rw[B]at E;have v0:=ah N;have v1:=ah O;have v2:=ah Q;have v3:=ah R;have W:=ah (f.out.aQ 0 0);have t1:=ah (f.out.aQ 0 1);have t2:=ah (f.out.aQ 0 2);have t3:=ah (f.out.aQ 0 3);have HY:=Hd2 o B;have aj:h<n:=oE;clear o B N O Q R qy C;gi_wp2;refine ak [] (List.range 8) oF oF ?_;refine eH ?_;refine aH fun K G=>aA rfl rfl wy fun U I=>?_;gi_wp2;refine Cl 35 E.out ?_;rintro e w3 ⟨rfl,p⟩;have F3:=Hd (f.out.drew.go p);refine I _ _ ⟨?_,G _ _ ?_⟩;clear I U G K;·exact a_ p _
   clear p v0 v1 v2 v3 W t1 t2 t3 J;refine lit ?_;refine eH ?_;refine aK ?_;refine lit ?_;by_cases z0:z<0
   ·have ae:decide (z<0)=true:=cw z0;have T:=Hd (show h+1<=P by
     rcases lh h P with g|g;·exact g
     rw[<-D.a]at g;have:=(aeU H.d H.c.ok H.c.ris g HY.a).1;rw[HY.u]at this;omega)
    gi_wp2;exact⟨⟨h+1,b,by go_num,rfl,T.out,hb,ac,F3⟩,by simp[intOf];omega⟩
   have ae:decide (z<0)=false:=cE z0;have T:=Hd (show P<=h by
    rcases lh h P with g|g;·rw[<-D.a]at g;have:=aeT g HY.a;rw[HY.u]at this;omega
    exact g)
   gi_wp2;exact⟨⟨a,h,rfl,by go_num,ha,T.out,oE,F3⟩,by simp[intOf];omega⟩
  ·obtain rfl:a=P:=oE;obtain rfl:b=a:=oE;by_cases ad:b<n
   ·obtain⟨y,o⟩:=dW l b (by rw[HM.u];exact ad);obtain⟨b3,o3,p3,q3,A3,n3,c3,B3,m3,d3,rfl,⟨N,O,Q,R⟩,qy⟩:=(H.a.go f.out.bl).adn o;have C:=aR o;have E:=Hd (aad (HM.a.le (w':=wr.drew) f.out.bl.size) (qy.go (bw wr wr).drew).qw ((H.b.go f.out.bl).go (bw wr wr).drew).qw (H.c.ok y C) H.d ((H.c.sh y C).fine H.x));obtain⟨z,B⟩:=aC (rW y x);rw[B]at E;have HZ:=Hd (show Z=(z==0) by
     rw[<-D.u];unfold aas;rw[D.a,o];show decide (rW y x=0)=_;rw[B];rfl)
    have v0:=ah N;have v1:=ah O;have v2:=ah Q;have v3:=ah R;have W:=ah (f.out.aQ 0 0);have t1:=ah (f.out.aQ 0 1);have t2:=ah (f.out.aQ 0 2);have t3:=ah (f.out.aQ 0 3);clear o B N O Q R qy C J;gi_wp2;refine ak [] (List.range 16) oF oF ?_;refine eH ?_;refine aH fun K G=>aA rfl rfl wy fun U I=>?_;gi_wp2;refine Cl 35 E.out ?_;rintro e w3 ⟨rfl,p⟩;have F3:=Hd (f.out.drew.go p);refine I _ _ ⟨?_,G _ _ ?_⟩;clear I U G K;·exact a_ p _
    clear p v0 v1 v2 v3 W t1 t2 t3;refine lit ?_;refine eH ?_;refine aK ?_;refine lit ?_;gi_wp2;exact⟨rfl,.tuple #[.int .i64 (b:Nat),.bool (z==0)],by simp[results,go_sem],by rw[HZ.out],F3.out.bl⟩
   have HZ:=Hd (show Z=false by rw[<-D.u];unfold aas;rw[D.a,fL (by rw[HM.u];omega)]);clear J;gi_wp2;refine ak [] (List.range 16) oF oF ?_;refine eH ?_;refine aK ?_;refine lit ?_;gi_wp2;exact⟨rfl,.tuple #[.int .i64 (b:Nat),.bool false],by simp[results,go_sem],by rw[HZ.out],f.out.drew.bl⟩
end
