/- Lemmas -/
import Derived.Test.YtfdmnogfflcllaaGreatDoorRows
set_option linter.all false
set_option maxRecDepth 100000
set_option maxHeartbeats 0
namespace Go.Proofs.YtfdmnogfflcllaaGreatDoor
theorem QL{p:Prop}(h:p:=by obtain⟨e,-⟩:=tC c (by rw[List.length_map,List.length_range,Nat.pow_succ];omega);unfold mD;rw[e]):p:=h
theorem Y6{p:Prop}(h:p:=by rw[Int.natAbs_mul,Int.natAbs_natCast];exact Nat.le_mul_of_pos_left _ f):p:=h
variable {n d k x q W V g D T P:Nat}{r l ws vs:List Nat}{a b:Int}
def BB:Nat:=1073741824
theorem eX:0<BB:=by decide
theorem rE:2<=BB:=by decide
def val:List Nat->Nat
 | []=>0
 |d::r=>d+BB*val r
def Good(l:List Nat):Prop:=∀d,d∈l->d<BB
def bC(n:Nat):List Nat:=if _h:n=0 then []else n%BB::bC (n/BB)
termination_by n
decreasing_by exact Nat.div_lt_self (by omega) rE
theorem bU:bC 0= []:=by rw[bC];simp
theorem iP(h:n≠0):bC n=n%BB::bC (n/BB):=by rw[bC];simp[h]
theorem bI(n:Nat):val (bC n)=n:=by
 induction n using Nat.strongRecOn with
 |_ n ih=>
  by_cases h:n=0;·subst h;rw[bU];rfl
  ·rw[iP h,val,ih (n/BB) (Nat.div_lt_self (by omega) rE)];exact Nat.mod_add_div n BB
theorem aO(n:Nat):Good (bC n):=by
 induction n using Nat.strongRecOn with
 |_ n ih=>
  by_cases h:n=0;·subst h;rw[bU];intro d c;cases c
  ·rw[iP h];intro d c;rcases List.mem_cons.1 c with rfl|c;·exact Nat.mod_lt _ eX
   exact ih (n/BB) (Nat.div_lt_self (by omega) rE) d c
def iE:List Nat->Bool
 | []=>true
 | [d]=>d !=0
 |_::e::r=>iE (e::r)
theorem KW(h:iE (d::r)=true):iE r=true:=by
 cases r with
 |nil=>rfl
 |cons e r=>exact h
theorem Ho(h:Good (d::r)):d<BB/\Good r:=⟨h d List.mem_cons_self,fun x hx=>h x (List.mem_cons_of_mem _ hx)⟩
theorem nT(h:d<BB)(g:Good r):Good (d::r):=by
 intro x hx;rcases List.mem_cons.1 hx with rfl|hx;·exact h
 exact g x hx
theorem tu:Good []:=fun _ h=>by cases h
theorem DK:∀{d:Nat}{r:List Nat},iE (d::r)=true->0<val (d::r)
 |d, [],h=>by simp[iE]at h;simp[val];omega
 |d,e::r,h=>by have:=DK (d:=e) (r:=r) h;have h2:0<BB*val (e::r):=Nat.mul_pos eX this;rw[val];omega
theorem Jm:∀(l:List Nat),Good l->iE l=true->bC (val l)=l
 | [],_,_=>bU
 |d::r,hg,ht=>by
  obtain⟨h1,h2⟩:=Ho hg;have hp:=DK ht;rw[iP (by omega)];have e1:val (d::r)%BB=d:=by rw[val,Nat.add_mul_mod_self_left,Nat.mod_eq_of_lt h1]
  have O:val (d::r)/BB=val r:=by rw[val,Nat.add_mul_div_left _ _ eX,Nat.div_eq_of_lt h1,Nat.zero_add]
  rw[e1,O,Jm r h2 (KW ht)]
theorem iQ(n:Nat):iE (bC n)=true:=by
 induction n using Nat.strongRecOn with
 |_ n ih=>
  by_cases h:n=0;·subst h;rw[bU];rfl
  ·rw[iP h];have:=ih (n/BB) (Nat.div_lt_self (by omega) rE);by_cases c:n/BB=0
   ·rw[c,bU];have s:n<BB:=by
     rcases Nat.lt_or_ge n BB with g|g;·exact g
     have:=Nat.div_pos g eX;omega
    simp only[iE,bne_iff_ne,ne_eq];rw[Nat.mod_eq_of_lt s];exact h
   rw[iP c]at this |-;exact this
theorem val_append(a b:List Nat):val (a++b)=val a+BB^a.length*val b:=by
 induction a with
 |nil=>simp[val]
 |cons d r ih=>rw[List.cons_append,val,ih,val,List.length_cons,Nat.pow_succ,Nat.mul_add,<-Nat.mul_assoc,Nat.mul_comm BB (BB^r.length),Nat.add_assoc]
theorem zq(n:Nat):val (List.replicate n 0)=0:=by
 induction n with
 |zero=>rfl
 |succ n ih=>rw[List.replicate_succ,val,ih,Nat.mul_zero,Nat.add_zero]
theorem jh:∀(l:List Nat),Good l->val l<BB^l.length
 | [],_=>by simp[val]
 |d::r,h=>by obtain⟨h1,h2⟩:=Ho h;have:=jh r h2;rw[val,List.length_cons,Nat.pow_succ,Nat.mul_comm (BB^r.length)];have:BB*(val r+1)<=BB*BB^r.length:=Nat.mul_le_mul_left _ this;rw[Nat.mul_add,Nat.mul_one]at this;omega
theorem Jo:∀{l:List Nat},l≠ []->iE l=true->BB^(l.length-1)<=val l
 | [],h,_=>absurd rfl h
 | [d],_,h=>by simp[iE]at h;simp[val];omega
 |d::e::r,_,h=>by have:=Jo (l:=e::r) (by simp) h;rw[val];simp only[List.length_cons,Nat.add_sub_cancel]at this |-;have h2:BB*BB^r.length<=BB*val (e::r):=Nat.mul_le_mul_left _ this;rw[Nat.pow_succ,Nat.mul_comm];omega
def mD(l:List Nat):List Nat:=bC (val l)
theorem zu(h:Good l)(hd:d<BB):Good (l++ [d]):=by
 intro x hx;rcases List.mem_append.1 hx with hx|hx;·exact h x hx
 simp at hx;subst hx;exact hd
theorem aeu(l:List Nat):mD (l++ [0])=mD l:=by unfold mD;rw[val_append];simp[val]
theorem zV{d:Nat}(hd:d≠0):∀(l:List Nat),iE (l++ [d])=true
 | []=>by simp[iE,hd]
 | [a]=>by simp[iE,hd]
 |a::b::r=>by have:=zV hd (b::r);simpa[iE]using this
theorem aev(h:Good (l++ [d]))(hd:d≠0):mD (l++ [d])=l++ [d]:=Jm _ h (zV hd l)
def oN:List Int->Int
 | []=>0
 |x::r=>x+(BB:Int)*oN r
def aY:List Int->Int->List Nat×Int
 | [],o=>([],o)
 |x::r,o=>(((x+o)% (BB:Int)).toNat::(aY r ((x+o)/(BB:Int))).1,(aY r ((x+o)/(BB:Int))).2)
theorem Qv:(0:Int)<(BB:Int):=by decide
theorem ji:∀(l:List Int) (o:Int),Good (aY l o).1/\(aY l o).1.length=l.length
 | [],o=>⟨tu,rfl⟩
 |x::r,o=>by obtain⟨h1,h2⟩:=ji r ((x+o)/(BB:Int));refine⟨nT ?_ h1,by simp[aY,h2]⟩;have a:=Int.emod_nonneg (x+o) (show(BB:Int)≠0 by decide);have b:=Int.emod_lt_of_pos (x+o) Qv;omega
theorem uH:∀(l:List Int) (o:Int),oN l+o=(val (aY l o).1:Int)+(BB:Int)^l.length*(aY l o).2
 | [],o=>by simp[oN,aY,val]
 |x::r,o=>by
  have ih:=uH r ((x+o)/(BB:Int));have a:=Int.emod_nonneg (x+o) (show(BB:Int)≠0 by decide);have e:=Int.emod_add_mul_ediv (x+o) (BB:Int);simp only[aY,val,oN,List.length_cons];rw[Int.natCast_add,Int.natCast_mul,Int.toNat_of_nonneg a,Int.pow_succ];generalize (x+o)/(BB:Int)=q at*;generalize (x+o)% (BB:Int)=m at*;generalize hv:(val (aY r q).1:Int)=v at*;generalize (aY r q).2=o' at*;generalize (BB:Int)^r.length=pw at*;generalize (BB:Int)=b at*
  have:b*(oN r+q)=b*(v+pw*o'):=by rw[ih]
  have H:b*(oN r+q)=b*oN r+b*q:=Int.mul_add ..;have O:b*(v+pw*o')=b*v+pw*b*o':=by rw[Int.mul_add,<-Int.mul_assoc,Int.mul_comm b pw]
  omega
theorem tC{l:List Int}(h:oN l=(n:Int))(hn:n<BB^l.length):val (aY l 0).1=n/\(aY l 0).2=0:=by
 obtain⟨e,f⟩:=ji l 0;have c:=uH l 0;have i:=jh _ e;rw[f]at i;rw[h,Int.add_zero]at c;have m:((BB^l.length:Nat):Int)=(BB:Int)^l.length:=Int.natCast_pow ..;rw[<-m]at c;generalize BB^l.length=pw at*
 generalize val (aY l 0).1=v at*
 generalize (aY l 0).2=o at*
 have j:o=0:=by
  rcases Int.lt_trichotomy o 0 with g|g|g;·have:(pw:Int)*o<=(pw:Int)*(-1):=Int.mul_le_mul_of_nonneg_left (by omega) (by omega);omega
  ·exact g
  have:(pw:Int)*1<=(pw:Int)*o:=Int.mul_le_mul_of_nonneg_left (by omega) (by omega);omega
 subst j;exact⟨by omega,rfl⟩
theorem lX(l:List Nat)(k:Nat)(hk:k<=l.length):val l=val (l.take k)+BB^k*val (l.drop k):=by
 have:=val_append (l.take k) (l.drop k)
 rwa [List.take_append_drop,List.length_take,Nat.min_eq_left hk]at this
theorem lD(h:Good l)(k:Nat):Good (l.take k):=fun d hd=>h d (List.mem_of_mem_take hd)
theorem uI(h:Good l)(k:Nat):Good (l.drop k):=fun d hd=>h d (List.mem_of_mem_drop hd)
theorem uJ{a b:List Nat}(ha:Good a)(hl:a.length=b.length){y:Nat}(hx:a[k]?=some x)(hy:b[k]?=some y)(he:a.drop (k+1)=b.drop (k+1))(hxy:x<y):val a<val b:=by
 have j:k<a.length:=(List.getElem?_eq_some_iff.1 hx).1;have kb:k<b.length:=(List.getElem?_eq_some_iff.1 hy).1;rw[lX a k (by omega),lX b k (by omega)];have c:a.drop k=x::a.drop (k+1):=by rw[List.drop_eq_getElem_cons j];congr 1;exact(List.getElem?_eq_some_iff.1 hx).2
 have e:b.drop k=y::b.drop (k+1):=by rw[List.drop_eq_getElem_cons kb];congr 1;exact(List.getElem?_eq_some_iff.1 hy).2
 rw[c,e,he,val,val];have f:=jh _ (lD ha k);rw[List.length_take,Nat.min_eq_left (by omega)]at f;generalize BB*val (b.drop (k+1))=t;have i:BB^k*(x+t+1)<=BB^k*(y+t):=Nat.mul_le_mul_left _ (by omega);rw[Nat.mul_add,Nat.mul_one]at i;omega
theorem rF{a b:List Nat}(ha:Good a)(hb:iE b=true)(hl:a.length<b.length):val a<val b:=by have c:=jh a ha;have f:=Jo (l:=b) (by intro e;rw[e]at hl;simp at hl) hb;have s:BB^a.length<=BB^(b.length-1):=Nat.pow_le_pow_right eX (by omega);omega
def aB(l:List Nat)(i:Nat):Nat:=l.getD i 0
theorem KY(a b:List Int):oN (a++b)=oN a+(BB:Int)^a.length*oN b:=by
 induction a with
 |nil=>simp[oN]
 |cons d r ih=>rw[List.cons_append,oN,ih,oN,List.length_cons,Int.pow_succ,Int.mul_add,<-Int.mul_assoc,Int.mul_comm (BB:Int) ((BB:Int)^r.length),Int.add_assoc]
def vY(f:Nat->Int)(n:Nat):Int:=oN ((List.range n).map f)
theorem jv(f:Nat->Int)(n:Nat):vY f (n+1)=vY f n+(BB:Int)^n*f n:=by unfold vY;rw[List.range_succ,List.map_append,KY];simp[oN]
theorem KZ(f g:Nat->Int)(n:Nat):vY (fun i=>f i+g i) n=vY f n+vY g n:=by
 induction n with
 |zero=>rfl
 |succ n ih=>rw[jv,jv,jv,ih,Int.mul_add];omega
theorem K_(f g:Nat->Int)(n:Nat):vY (fun i=>f i-g i) n=vY f n-vY g n:=by
 induction n with
 |zero=>rfl
 |succ n ih=>rw[jv,jv,jv,ih,Int.mul_sub];omega
theorem La(f:Nat->Int)(x:Int)(n:Nat):vY (fun i=>f i*x) n=vY f n*x:=by
 induction n with
 |zero=>simp[vY,oN]
 |succ n ih=>rw[jv,jv,ih,Int.add_mul,<-Int.mul_assoc]
theorem kQ(l:List Nat)(hn:l.length<=n):vY (fun i=>(aB l i:Int)) n=(val l:Int):=by
 have c:∀k,vY (fun i=>(aB l i:Int)) k=(val (l.take k):Int):=by
  intro k
  induction k with
  |zero=>rfl
  |succ k ih=>
   rw[jv,ih];by_cases h:k<l.length;·rw[List.take_succ_eq_append_getElem h,val_append,List.length_take,Nat.min_eq_left (by omega)];simp[val,aB,List.getD,List.getElem?_eq_getElem h,Int.natCast_add,Int.natCast_mul,Int.natCast_pow]
   ·rw[List.take_of_length_le (by omega),List.take_of_length_le (by omega)];simp[aB,List.getD,List.getElem?_eq_none (show l.length<=k by omega)]
 rw[c,List.take_of_length_le hn]
theorem DL{a b:List Nat}(ha:Good a)(hb:Good b):mD (aY ((List.range (max a.length b.length+1)).map fun i=>(aB a i:Int)+(aB b i:Int)) 0).1=bC (val a+val b):=by
 have c:oN ((List.range (max a.length b.length+1)).map fun i=>(aB a i:Int)+(aB b i:Int))=((val a+val b:Nat):Int):=by have:=KZ (fun i=>(aB a i:Int)) (fun i=>(aB b i:Int)) (max a.length b.length+1);rw[kQ a (by omega),kQ b (by omega)]at this;rw[Int.natCast_add];exact this
 have f:=jh a ha;have lb:=jh b hb;have m:BB^a.length<=BB^(max a.length b.length):=Nat.pow_le_pow_right eX (by omega);have o:BB^b.length<=BB^(max a.length b.length):=Nat.pow_le_pow_right eX (by omega);have j:BB^(max a.length b.length)*2<=BB^(max a.length b.length)*BB:=Nat.mul_le_mul_left _ rE;exact QL
theorem Oz{a b:List Nat}(ha:Good a)(hba:val b<=val a)(hl:b.length<=a.length):mD (aY ((List.range a.length).map fun i=>(aB a i:Int)-(aB b i:Int)) 0).1=bC (val a-val b):=by
 have c:oN ((List.range a.length).map fun i=>(aB a i:Int)-(aB b i:Int))=((val a-val b:Nat):Int):=by have:=K_ (fun i=>(aB a i:Int)) (fun i=>(aB b i:Int)) a.length;rw[kQ a (Nat.le_refl _),kQ b hl]at this;rw[Int.natCast_sub hba];exact this
 have f:=jh a ha;obtain⟨e,-⟩:=tC c (by rw[List.length_map,List.length_range];omega);unfold mD;rw[e]
theorem Jq{a:List Nat}(ha:Good a)(hx:x<=BB):mD (aY ((List.range (a.length+1)).map fun i=>(aB a i:Int)*(x:Int)) 0).1=bC (val a*x):=by
 have c:oN ((List.range (a.length+1)).map fun i=>(aB a i:Int)*(x:Int))=((val a*x:Nat):Int):=by have:=La (fun i=>(aB a i:Int)) (x:Int) (a.length+1);rw[kQ a (by omega)]at this;rw[Int.natCast_mul];exact this
 have f:=jh a ha;have j:val a*x<=val a*BB:=Nat.mul_le_mul_left _ hx;have m:val a*BB<BB^a.length*BB:=Nat.mul_lt_mul_of_pos_right f eX;exact QL
theorem OA{v r:Nat}(hd:0<d)(h:v=q*d+r)(hr:r<d):
 x+BB*v=((r*BB+x)/d+BB*q)*d+(r*BB+x)%d/\(r*BB+x)%d<d/\(x<BB->(r*BB+x)/d<BB):=by
 have e:=Nat.mod_add_div (r*BB+x) d;refine⟨?_,Nat.mod_lt _ hd,fun hx=>?_⟩
 ·generalize (r*BB+x)/d=a at*
  generalize (r*BB+x)%d=b at*;subst h
  have H:BB*(q*d+r)=BB*q*d+r*BB:=by rw[Nat.mul_add,<-Nat.mul_assoc,Nat.mul_comm BB r]
  have O:(a+BB*q)*d=d*a+BB*q*d:=by rw[Nat.add_mul,Nat.mul_comm a d]
  omega
 ·refine(Nat.div_lt_iff_lt_mul hd).2 ?_;have c:(r+1)*BB<=d*BB:=Nat.mul_le_mul_right _ hr;rw[Nat.add_mul,Nat.one_mul]at c;rw[Nat.mul_comm BB d];omega
theorem OB(hV:D*P<=V)(hT:W<(T+1)*P)(h:T<g*D):W<g*V:=by have e:(T+1)*P<=g*D*P:=Nat.mul_le_mul_right _ h;have c:g*(D*P)<=g*V:=Nat.mul_le_mul_left _ hV;rw[<-Nat.mul_assoc]at c;omega
theorem OC(hV:V<(D+1)*P)(hT:T*P<=W)(h:g*D<=T)(hg:g<=D+1):g*V<=W+V:=by
 rcases Nat.lt_or_ge (W+V) (g*V)with c|c
 ·exfalso;have m:1<=g:=by
   rcases Nat.eq_zero_or_pos g with e|e;·subst e;simp at c
   exact e
  obtain⟨f,rfl⟩:∃f,g=f+1:=⟨g-1,by omega⟩;have G:W<f*V:=by rw[Nat.add_mul,Nat.one_mul]at c;omega
  have Q:f*V<=f*((D+1)*P):=Nat.mul_le_mul_left _ (Nat.le_of_lt hV);rw[<-Nat.mul_assoc]at Q;have i:T*P<f*(D+1)*P:=by omega
  have j:T<f*(D+1):=Nat.lt_of_mul_lt_mul_right i;rw[Nat.add_mul,Nat.one_mul]at h;rw[Nat.mul_add,Nat.mul_one]at j;omega
 exact c
theorem Lc{head v1:Nat}(hq:q*V<=W)(hV:v1*P<=V)(hW:W<(head+1)*P)(hv:0<v1):q<=head/v1:=by
 rw[Nat.le_div_iff_mul_le hv];have c:q*(v1*P)<=q*V:=Nat.mul_le_mul_left _ hV;rw[<-Nat.mul_assoc]at c;have e:q*v1*P<(head+1)*P:=by omega
 have:=Nat.lt_of_mul_lt_mul_right e;omega
theorem agN{R:Nat}(hW:W=x+BB*R)(hR:R<V)(hx:x<BB):W<BB*V:=by have:BB*(R+1)<=BB*V:=Nat.mul_le_mul_left _ hR;rw[Nat.mul_add,Nat.mul_one]at this;omega
theorem lF(h:Good l)(hk:k<=l.length):val (l.drop k)*BB^k<=val l/\val l<(val (l.drop k)+1)*BB^k:=by have e:=lX l k hk;have c:=jh _ (lD h k);rw[List.length_take,Nat.min_eq_left hk]at c;rw[Nat.mul_comm (val (l.drop k)),Nat.add_mul,Nat.one_mul,Nat.mul_comm (val (l.drop k))];omega
theorem Hq(g:Nat)(hl:ws.length=vs.length):
 (val (aY ((List.range vs.length).map fun j=>(aB ws j:Int)-(g:Int)*(aB vs j:Int)) 0).1:Int)+(BB:Int)^vs.length*(aY ((List.range vs.length).map fun j=>(aB ws j:Int)-(g:Int)*(aB vs j:Int)) 0).2=(val ws:Int)-(g:Int)*(val vs:Int):=by
 have c:=uH ((List.range vs.length).map fun j=>(aB ws j:Int)-(g:Int)*(aB vs j:Int)) 0;have e:oN ((List.range vs.length).map fun j=>(aB ws j:Int)-(g:Int)*(aB vs j:Int))=(val ws:Int)-(val vs:Int)*(g:Int):=by have a1:=K_ (fun i=>(aB ws i:Int)) (fun i=>(aB vs i:Int)*(g:Int)) vs.length;rw[kQ ws (by omega),La,kQ vs (Nat.le_refl _)]at a1;rw[<-a1];unfold vY;congr 2;funext j;rw[Int.mul_comm (g:Int)]
 rw[e,Int.add_zero,List.length_map,List.length_range]at c;rw[Int.mul_comm (g:Int) (val vs:Int)];exact c.symm
theorem VL(hl:ws.length=vs.length):
 (val (aY ((List.range vs.length).map fun j=>(aB ws j:Int)+(aB vs j:Int)) 0).1:Int)+(BB:Int)^vs.length*(aY ((List.range vs.length).map fun j=>(aB ws j:Int)+(aB vs j:Int)) 0).2=(val ws:Int)+(val vs:Int):=by
 have c:=uH ((List.range vs.length).map fun j=>(aB ws j:Int)+(aB vs j:Int)) 0;have e:oN ((List.range vs.length).map fun j=>(aB ws j:Int)+(aB vs j:Int))=(val ws:Int)+(val vs:Int):=by have a1:=KZ (fun i=>(aB ws i:Int)) (fun i=>(aB vs i:Int)) vs.length;rw[kQ ws (by omega),kQ vs (Nat.le_refl _)]at a1;rw[<-a1];rfl
 rw[e,Int.add_zero,List.length_map,List.length_range]at c;exact c.symm
theorem Hr{p:Nat}{t:Int}(hx:x<p)(hn:n<p)(h:(x:Int)+(p:Int)*t=(n:Int)):t=0/\x=n:=by
 have X:t=0:=by
  rcases Int.lt_trichotomy t 0 with g|g|g;·have:(p:Int)*t<=(p:Int)*(-1):=Int.mul_le_mul_of_nonneg_left (by omega) (by omega);omega
  ·exact g
  have:(p:Int)*1<=(p:Int)*t:=Int.mul_le_mul_of_nonneg_left (by omega) (by omega);omega
 subst X;exact⟨rfl,by omega⟩
theorem Jr{r:Nat}(h:W=q*V+r)(hr:r<V):q=W/V/\r=W%V:=by
 have c:r+V*q=W:=by rw[Nat.mul_comm V q];omega
 exact(Nat.div_mod_unique (by omega)).2 ⟨c,hr⟩ |> fun⟨a,b⟩=>⟨a.symm,b.symm⟩
def aG(z:Int):Bool:=decide (z<0)
def bG(z:Int):List Nat:=bC z.natAbs
def gJ(neg:Bool)(n:Nat):Int:=if neg then-(n:Int)else(n:Int)
theorem VN(z:Int):val (bG z)=z.natAbs:=bI _
theorem SG(z:Int):Good (bG z):=aO _
theorem Ld(z:Int):iE (bG z)=true:=iQ _
theorem yw(neg:Bool)(n:Nat):bG (gJ neg n)=bC n:=by unfold bG gJ;cases neg<;>simp
theorem jO:bC n= []↔n=0:=by
 constructor;·intro h;have:=bI n;rw[h]at this;simpa[val]using this.symm
 rintro rfl;exact bU
theorem Le(neg:Bool)(n:Nat):aG (gJ neg n)=(neg&&decide (0<(bC n).length)):=by
 by_cases c:n=0;·subst c;cases neg<;>simp[aG,gJ,bU]
 have h:0<(bC n).length:=List.length_pos_iff.2 (fun e=>c (jO.1 e));cases neg;·simp[aG,gJ]
 simp only[h,decide_true,Bool.and_true,aG,gJ,if_true];exact decide_eq_true (by omega)
theorem Yx(s t:Bool)(q k:Nat):gJ (s !=t) q*gJ t k=gJ s (q*k):=by cases s<;>cases t<;>simp[gJ,Int.natCast_mul,Int.neg_mul,Int.mul_neg]
theorem Qw(z:Int):gJ (aG z) z.natAbs=z:=by
 unfold gJ aG;by_cases h:z<0;·simp[h];omega
 simp[h];omega
theorem add_same(h:aG a=aG b):gJ (aG a) (a.natAbs+b.natAbs)=a+b:=by
 unfold gJ aG at*
 have f:(a<0)↔(b<0):=decide_eq_decide.1 h;by_cases c:a<0;·have d:=f.1 c;simp only[c,decide_true,if_true];omega
 have d:¬b<0:=fun e=>c (f.2 e);simp only[c,decide_false,Bool.false_eq_true,if_false];omega
theorem Ht(h:aG a≠aG b)(hl:b.natAbs<=a.natAbs):gJ (aG a) (a.natAbs-b.natAbs)=a+b:=by
 unfold gJ aG at*
 have f:¬((a<0)↔(b<0)):=fun e=>h (decide_eq_decide.2 e);by_cases c:a<0;·have d:¬b<0:=fun e=>f ⟨fun _=>e,fun _=>c⟩;simp only[c,decide_true,if_true];omega
 have d:b<0:=by
  by_cases e:b<0;·exact e
  exact absurd ⟨fun x=>absurd x c,fun x=>absurd x e⟩ f
 simp only[c,decide_false,Bool.false_eq_true,if_false];omega
theorem Yy(a b:Int):gJ (aG a !=aG b) (a.natAbs*b.natAbs)=a*b:=by
 have e:((a.natAbs*b.natAbs:Nat):Int)=(a*b).natAbs:=by rw[Int.natAbs_mul]
 unfold gJ aG;by_cases c:a<0<;>by_cases d:b<0
 ·have:=Int.mul_pos_of_neg_of_neg c d;simp only[c,d,decide_true,bne_self_eq_false,Bool.false_eq_true,if_false];omega
 ·have:a*b<=0:=Int.mul_nonpos_of_nonpos_of_nonneg (by omega) (by omega);simp only[c,d,decide_true,decide_false,Bool.true_bne,Bool.not_false,if_true];omega
 ·have:a*b<=0:=Int.mul_nonpos_of_nonneg_of_nonpos (by omega) (by omega);simp only[c,d,decide_true,decide_false,Bool.false_bne,if_true];omega
 have:0<=a*b:=Int.mul_nonneg (by omega) (by omega);simp only[c,d,decide_false,bne_self_eq_false,Bool.false_eq_true,if_false];omega
theorem VO(ha:¬a<0):a%b=((a.natAbs%b.natAbs:Nat):Int):=by
 obtain⟨m,rfl⟩:∃m:Nat,a=(m:Int):=⟨a.toNat,by omega⟩;obtain⟨k,e⟩:∃k:Nat,b=(k:Int)\/b= -(k:Int):=⟨b.natAbs,by omega⟩;rcases e with rfl|rfl;·simp[Int.natCast_emod]
 simp[Int.natCast_emod,Int.emod_neg]
theorem aew(h:(a.natAbs:Nat)%b.natAbs=0\/¬a<0)(hb:b≠0):gJ (aG a !=aG b) (a.natAbs/b.natAbs)=a/b/\((a.natAbs%b.natAbs:Nat):Int)=a%b:=by
 have i:((a.natAbs%b.natAbs:Nat):Int)=a%b:=by
  by_cases c:a<0;·have e:=h.resolve_right (fun x=>x c);rw[e];have:b∣a:=Int.natAbs_dvd_natAbs.1 (Nat.dvd_of_mod_eq_zero e);exact(Int.emod_eq_zero_of_dvd this).symm
  exact(VO c).symm
 refine⟨?_,i⟩;have j:=Nat.mod_add_div a.natAbs b.natAbs;have s:gJ (aG a !=aG b) (a.natAbs/b.natAbs)*b=gJ (aG a) (a.natAbs/b.natAbs*b.natAbs):=by
  have:=Yx (aG a) (aG b) (a.natAbs/b.natAbs) b.natAbs
  rwa [Qw b]at this
 have F:gJ (aG a !=aG b) (a.natAbs/b.natAbs)*b+a%b=a:=by
  rw[s,<-i];have M:a.natAbs/b.natAbs*b.natAbs=a.natAbs-a.natAbs%b.natAbs:=by rw[Nat.mul_comm];omega
  have m:=Nat.mod_le a.natAbs b.natAbs;rw[M];unfold gJ aG;by_cases c:a<0;·have e:=h.resolve_right (fun x=>x c);simp only[c,decide_true,if_true,e];omega
  simp only[c,decide_false,Bool.false_eq_true,if_false];omega
 have o:=Int.mul_ediv_add_emod a b;have f:gJ (aG a !=aG b) (a.natAbs/b.natAbs)*b=b*(a/b):=by omega
 rw[Int.mul_comm b]at f;exact Int.eq_of_mul_eq_mul_right hb f
def Lj(most:Nat)(neg:Bool)(l:List Int):Bool:=decide (l.length<=most)&&(!(l.isEmpty&&neg))&&(l.getLast?.all fun d=>d !=0)&&l.all fun d=>decide (0<=d/\d<(BB:Int))
theorem mF:∀(l:List Nat),iE l=(l.getLast?.all fun d=>d !=0)
 | []=>rfl
 | [d]=>by simp[iE]
 |d::e::r=>by have:=mF (e::r);simpa[iE]using this
theorem SK{most:Nat}{neg:Bool}{l:List Int}(h:Lj most neg l=true):∃z:Int,neg=aG z/\l=(bG z).map (fun(d:Nat)=>(d:Int))/\(bG z).length<=most:=by
 simp only[Lj,Bool.and_eq_true,decide_eq_true_eq,List.all_eq_true]at h;obtain⟨⟨⟨i,e⟩,h3⟩,h4⟩:=h;have m:l=(l.map Int.toNat).map (fun(d:Nat)=>(d:Int)):=by
  rw[List.map_map];conv=>lhs;rw[<-List.map_id l]
  apply List.map_congr_left;intro d c;have:=h4 d c;simp only[id,Function.comp];omega
 have j:Good (l.map Int.toNat):=by intro d c;obtain⟨x,hx,rfl⟩:=List.mem_map.1 c;have:=h4 x hx;omega
 have X:iE (l.map Int.toNat)=true:=by
  rw[mF,List.getLast?_map]
  cases f:l.getLast? with
  |none=>rfl
  |some d=>rw[f]at h3;have M:=h4 d (List.mem_of_getLast? f);simp at h3 |-;omega
 have c:=Jm _ j X;refine⟨gJ neg (val (l.map Int.toNat)),?_,?_,?_⟩
 ·rw[Le,c,List.length_map];cases neg;·rfl
  simp at e;have:0<l.length:=List.length_pos_iff.2 e;simp[this]
 ·rw[yw,c];exact m
 rw[yw,c,List.length_map];exact i
theorem lY:∀(n:Nat) (k:Nat),n<BB^k↔(bC n).length<=k
 |n,0=>by rw[Nat.pow_zero,Nat.le_zero,List.length_eq_zero_iff,jO];omega
 |n,k+1=>by
  by_cases h:n=0;·subst h;rw[bU];simp[Nat.pow_pos eX]
  rw[iP h,List.length_cons,Nat.succ_le_succ_iff,<-lY (n/BB) k,Nat.pow_succ,Nat.div_lt_iff_lt_mul eX]
theorem kR{m:Nat}(h:m<=n):(bC m).length<=(bC n).length:=(lY m _).1 (Nat.lt_of_le_of_lt h ((lY n _).2 (Nat.le_refl _)))
def fits(z:Int):Bool:=decide ((bG z).length<=2048)
theorem jZ(h:a.natAbs<=b.natAbs)(hb:fits b=true):fits a=true:=by have c:=of_decide_eq_true hb;exact decide_eq_true (Nat.le_trans (kR h) c)
theorem DN(h:fits a=true):fits (-a)=true:=jZ (by omega) h
structure Rt where
 num:Int
 den:Int
structure Rt.ok(x:Rt):Prop where
 pos:0<x.den
 low:Int.gcd x.num x.den=1
 fn:fits x.num=true
 fd:fits x.den=true
def eP(n d:Int):Rt:=if d/(Int.gcd n d:Int)<0 then⟨-(n/(Int.gcd n d:Int)),-(d/(Int.gcd n d:Int))⟩else⟨n/(Int.gcd n d:Int),d/(Int.gcd n d:Int)⟩
theorem BH{n d:Int}(hd:0<d):eP n d=⟨n/(Int.gcd n d:Int),d/(Int.gcd n d:Int)⟩:=by have:0<=d/(Int.gcd n d:Int):=Int.ediv_nonneg (by omega) (by omega);unfold eP;rw[if_neg (by omega)]
theorem OD{n d:Int}(hd:0<d)(hn:fits n=true)(hf:fits d=true):(eP n d).ok:=by
 rw[BH hd];have f:0<Int.gcd n d:=Int.gcd_pos_iff.2 (.inr (by omega));obtain⟨g,e⟩:∃g,Int.gcd n d=g:=⟨_,rfl⟩;rw[e]at f |-;obtain⟨a,rfl⟩:(g:Int)∣n:=by rw[<-e];exact Int.gcd_dvd_left ..
 obtain⟨b,rfl⟩:(g:Int)∣d:=by rw[<-e];exact Int.gcd_dvd_right ..
 rw[Int.mul_ediv_cancel_left _ (by omega),Int.mul_ediv_cancel_left _ (by omega)];have j:0<b:=by
  by_cases c:0<b;·exact c
  have:(g:Int)*b<=0:=Int.mul_nonpos_of_nonneg_of_nonpos (by omega) (by omega);omega
 refine⟨j,?_,?_,?_⟩
 ·rw[Int.gcd_mul_left,Int.natAbs_natCast]at e;have i:g*Int.gcd a b=g*1:=by rw[e,Nat.mul_one]
  exact Nat.eq_of_mul_eq_mul_left f i
 ·refine jZ ?_ hn;exact Y6
 refine jZ ?_ hf;exact Y6
theorem Yz{x y z:Int}(h:x∣y*z)(hl:Int.gcd y x=1):x∣z:=by
 have c:x.natAbs∣y.natAbs*z.natAbs:=by rw[<-Int.natAbs_mul];exact Int.natAbs_dvd_natAbs.2 h
 have e:Nat.Coprime x.natAbs y.natAbs:=Nat.Coprime.symm hl;exact Int.natAbs_dvd_natAbs.1 (e.dvd_of_dvd_mul_left c)
def negR(a:Rt):Rt:=⟨-a.num,a.den⟩
theorem VP{a:Rt}(h:a.ok):(negR a).ok:=⟨h.pos,by show Int.gcd (-a.num) a.den=1;rw[Int.neg_gcd];exact h.low,DN h.fn,h.fd⟩
theorem agO{a b:Rt}(ha:a.ok)(hb:b.ok)(h:a.num*b.den=b.num*a.den):a=b:=by
 have c:a.den∣b.den:=by have:a.den∣a.num*b.den:=⟨b.num,by rw[h,Int.mul_comm]⟩;exact Yz this ha.low
 have e:b.den∣a.den:=by have:b.den∣b.num*a.den:=⟨a.num,by rw[<-h,Int.mul_comm]⟩;exact Yz this hb.low
 have s:a.den=b.den:=Int.dvd_antisymm (Int.le_of_lt ha.pos) (Int.le_of_lt hb.pos) c e;rw[s]at h;have F:a.num=b.num:=Int.eq_of_mul_eq_mul_right (by have:=hb.pos;omega) h;cases a;cases b;simp only at s F;rw[s,F]
def rv(x:Rt):Rat:=Rat.divInt x.num x.den
theorem agP{a b:Rt}(ha:a.ok)(hb:b.ok)(h:rv a=rv b):a=b:=by have c:=ha.pos;have e:=hb.pos;exact agO ha hb ((Rat.divInt_eq_divInt_iff (by omega) (by omega)).1 h)
theorem agd{a b:Rt}(ha:a.ok)(hb:b.ok):rv a<=rv b↔a.num*b.den<=b.num*a.den:=by have c:=ha.pos;have e:=hb.pos;rw[Rat.le_iff_sub_nonneg];unfold rv;rw[Rat.divInt_sub_divInt _ _ (by omega) (by omega),Rat.divInt_nonneg_iff_of_pos_right (Int.mul_pos e c)];omega
theorem ah7{a b:Rt}(ha:a.ok)(hb:b.ok):rv a<rv b↔a.num*b.den<b.num*a.den:=by rw[<-Rat.not_le,agd hb ha];omega
def ints(l:List Nat):List Int:=l.map (fun(d:Nat)=>(d:Int))
abbrev lG:=Bool×List Int
abbrev fC:=lG×lG
def jk(z:Int):lG:=(aG z,ints (bG z))
def jd(r:Rt):fC:=(jk r.num,jk r.den)
def gZ(x:lG):Bool:=Lj 2048 x.1 x.2
def DT(x:lG):Int:=gJ x.1 (val (x.2.map Int.toNat))
def OE(x:fC):Rt:=⟨DT x.1,DT x.2⟩
theorem aex(l:List Nat):(ints l).map Int.toNat=l:=by
 unfold ints;rw[List.map_map];conv=>rhs;rw[<-List.map_id l]
 apply List.map_congr_left;intro d _;rfl
theorem nG(z:Int):DT (jk z)=z:=by unfold DT jk;simp only[aex,VN];exact Qw z
theorem Lm(r:Rt):OE (jd r)=r:=by unfold OE jd;simp only[nG]
theorem Fq(l:List Nat):(ints l).getLast?=l.getLast?.map (fun(d:Nat)=>(d:Int)):=by unfold ints;rw[List.getLast?_map]
theorem j_(z:Int)(h:fits z=true):gZ (jk z)=true:=by
 have i:=of_decide_eq_true h;have c:=Ld z;have s:=SG z;rw[mF]at c;simp only[gZ,Lj,jk,Bool.and_eq_true,decide_eq_true_eq,List.all_eq_true];refine⟨⟨⟨by simpa[ints]using i,?_⟩,?_⟩,?_⟩
 ·cases m:aG z;·simp
  have:0<z.natAbs:=by unfold aG at m;have:=of_decide_eq_true m;omega
  have p:bG z≠ []:=fun e=>by have:=jO.1 e;omega
  cases f:bG z with
  |nil=>exact absurd f p
  |cons a l=>simp[ints]
 ·rw[Fq]
  cases f:(bG z).getLast? with
  |none=>rfl
  |some d=>rw[f]at c;simp at c |-;omega
 intro d j;obtain⟨k,o,rfl⟩:=List.mem_map.1 j;have:=s k o;omega
theorem nU(x:lG):gZ x=true↔∃z:Int,x=jk z/\fits z=true:=by
 constructor;·intro h;obtain⟨z,c,e,s⟩:=SK h;exact⟨z,Prod.ext c e,decide_eq_true s⟩
 rintro⟨z,rfl,h⟩;exact j_ z h
def dF(x:fC):Bool:=gZ x.1&&gZ x.2&&decide (0<DT x.2)&&decide (Int.gcd (DT x.1) (DT x.2)=1)
theorem zx(x:fC):dF x=true↔∃r:Rt,r.ok/\x=jd r:=by
 constructor;·intro h;simp only[dF,Bool.and_eq_true,decide_eq_true_eq]at h;obtain⟨⟨⟨c,e⟩,h3⟩,h4⟩:=h;obtain⟨n,H,f1⟩:=(nU _).1 c;obtain⟨d,O,f2⟩:=(nU _).1 e;rw[H,O,nG,nG]at h4;rw[O,nG]at h3;exact⟨⟨n,d⟩,⟨h3,h4,f1,f2⟩,Prod.ext H O⟩
 rintro⟨r,h,rfl⟩;simp only[dF,jd,j_ _ h.fn,j_ _ h.fd,nG,h.pos,h.low,decide_true,Bool.and_self]
