/- Lemmas and walks; no statement is proved here. -/
import Derived.Test.YtlcgbfkdnmdigaaGreatDoorM15
import Derived.Test.YtlcgbfkdnmdigaaGreatDoorM33
set_option linter.unusedVariables false
set_option linter.unusedSimpArgs false
set_option maxRecDepth 20000
set_option maxHeartbeats 6000000
namespace Go.Proofs.YtlcgbfkdnmdigaaGreatDoor
variable {x a b:Rt}{k i j:Nat}{n d:Int}{y:aU}
structure dS where
 marks:List (List Int)
 bonus:List Int
 malus:List Int
 prev:List fC
def kC(c:bT)(m:Int):Int:=if c.2.2.2.2.2.2=true then c.2.1+c.2.2.1-m else m
def gI(l:List Int):List Int:=l.mergeSort fun x y=>decide (x<=y)
def rU(c:bT)(l:List Int):List Int:=
 if c.2.2.2.2.1=1 then gI (l.map (kC c))else if c.2.2.2.2.1=2 then((gI (l.map (kC c))).take (l.length-c.2.2.2.2.2.1.toNat)).drop c.2.2.2.2.2.1.toNat
 else((gI (l.map (kC c))).take (l.length/2+1)).drop ((l.length-1)/2)
def qJ(c:bT)(l:List Int):Rt:=eP ((rU c l).sum*(if c.2.2.2.2.1=1 then(l.length:Int)else 1)) ((rU c l).length:Int)
structure Fv where
 tot:Nat->Rt
 bonus:Int
 malus:Int
 prev:List Rt
def zR:Rt:=⟨0,1⟩
def Uf(I:Fv)(k n d:Int)(l:List Rt):Rt:=
 if k=1 then eP n d else if k=2 then I.tot n.toNat else if k=3 then eP I.bonus 1 else if k=4 then eP I.malus 1 else if k=5 then I.prev.getD n.toNat zR
 else if k=6 then Js (l.getD 0 zR) (l.getD 1 zR)else if k=7 then OG (l.getD 0 zR) (l.getD 1 zR)else if k=8 then VQ (eP n d) (l.getD 0 zR)
 else if k=9 then(if rW (l.getD 0 zR) (l.getD 1 zR)<=0 then l.getD 0 zR else l.getD 1 zR)else if k=10 then(if-rW (l.getD 0 zR) (l.getD 1 zR)<=0 then l.getD 0 zR else l.getD 1 zR)
 else(if rW (l.getD 0 zR) (l.getD 1 zR)<=0 then l.getD 2 zR else l.getD 3 zR)
mutual
def rG(I:Fv):aU->Rt
 | .mk k _ n d l=>Uf I k n d (nH I l)
def nH(I:Fv):List aU->List Rt
 | []=> []
 |x::l=>rG I x::nH I l
end
theorem Qy(I:Fv)(x:aU):rG I x=Uf I x.kind x.n x.d (nH I x.l):=by cases x;rw[rG];rfl
theorem zL(I:Fv):∀l,nH I l=l.map (rG I)
 | []=>rfl
 |x::l=>by rw[nH,zL I l];rfl
structure yx(x:Rt)(k:Nat):Prop where
 ok:x.ok
 num:x.num.natAbs<BB^k
 den:x.den.natAbs<BB^k
theorem yx.up{k':Nat}(h:yx x k)(hk:k<=k'):yx x k':=⟨h.ok,Nat.lt_of_lt_of_le h.num (zy hk),Nat.lt_of_lt_of_le h.den (zy hk)⟩
theorem yx.sh(h:yx x k)(hk:k<=600):Sh x:=⟨(h.up (k':=Qx) (by unfold Qx;exact hk)).num,(h.up (k':=Qx) (by unfold Qx;exact hk)).den⟩
theorem wo(hd:0<d)(hk:k<=2048)(hn:n.natAbs<BB^k)(hf:d.natAbs<BB^k):yx (eP n d) k:=by
 refine⟨OD hd (pF hn hk) (pF hf hk),?_,?_⟩;·rw[BH hd];refine Nat.lt_of_le_of_lt ?_ hn;show(n/_).natAbs<=_;exact Int.natAbs_ediv_le_natAbs _ _
 rw[BH hd];refine Nat.lt_of_le_of_lt ?_ hf;show(d/_).natAbs<=_;exact Int.natAbs_ediv_le_natAbs _ _
theorem aaZ(ha:yx a i)(hb:yx b j)(h:i+j+1<=600):yx (Js a b) (i+j+1):=by
 refine wo (Int.mul_pos ha.ok.pos hb.ok.pos) (by omega) ?_ (Nat.lt_of_lt_of_le (dL ha.den hb.den) (zy (by omega)));refine vZ (dL ha.num hb.den) ?_;have:=dL hb.num ha.den
 rwa [Nat.add_comm j i]at this
theorem aa0(ha:yx a i)(hb:yx b j)(h:i+j+1<=600):yx (OG a b) (i+j+1):=by
 refine wo (Int.mul_pos ha.ok.pos hb.ok.pos) (by omega) ?_ (Nat.lt_of_lt_of_le (dL ha.den hb.den) (zy (by omega)));refine DU (dL ha.num hb.den) ?_;have:=dL hb.num ha.den
 rwa [Nat.add_comm j i]at this
theorem aa1(ha:yx a i)(hb:yx b j)(h:i+j<=600):yx (VQ a b) (i+j):=wo (Int.mul_pos ha.ok.pos hb.ok.pos) (by omega) (dL ha.num hb.num) (dL ha.den hb.den)
theorem ab9:BB=1073741824:=rfl
theorem pG(h:n.natAbs<=1152921504606846975):n.natAbs<BB^2:=by
 have:BB^2=1152921504606846976:=by rw[ab9]
 omega
theorem DW(h:pX y):((y.l.length:Nat):Int)=mV y.kind:=by
 obtain⟨nu,re,h,-⟩:=h;simp only[vT,qZ]at h
 repeat' split at h
 all_goals first
  |(rename_i e;simp at h;rw[e];exact h.1.symm)
  |(cases h;done)
  |(exfalso;simp at h;done)
structure ab_(I:Fv)(nc np:Nat):Prop where
 tot:∀n,n<nc->yx (I.tot n) 5
 prev:I.prev.length=np
 pv:∀x,x∈I.prev->yx x 5
 bonus:I.bonus.natAbs<=1152921504606846975
 malus:I.malus.natAbs<=1152921504606846975
structure YD(nc np:Nat)(y:aU):Prop where
 sh:pX y
 c:y.kind=2->0<=y.n/\y.n<(nc:Int)
 r:y.kind=5->0<=y.n/\y.n<(np:Int)
theorem uK{α β:Type}(f:α->β){l:List α}{x:α}(h:l[k]?=some x)(z:β):(l.map f).getD k z=f x:=by rw[List.getD_eq_getElem?_getD,List.getElem?_map,h];rfl
theorem VU(h:pX y)(hk:y.kind=1\/y.kind=8):0<=y.n/\y.n<=1099511627776/\1<=y.d/\y.d<=1099511627776:=by
 obtain⟨nu,re,h,-,hn,-⟩:=h
 cases nu with
 |true=>exact hn rfl
 |false=>exfalso;rcases hk with e|e<;>(rw[e]at h;simp[vT,qZ]at h)
theorem OH(h:0<=n/\n<=1099511627776/\1<=d/\d<=1099511627776):yx (eP n d) 2:=wo (by omega) (by omega) (pG (by omega)) (pG (by omega))
theorem aa2{I:Fv}{nc np:Nat}(hI:ab_ I nc np)(x:aU):nodes x<=60->(∀y,y∈iZ x->YD nc np y)->yx (rG I x) (5*nodes x):=by
 induction x using iY with
 |_ x ih=>
  intro hn hp;have hx:=hp x (by rw[lW];exact List.mem_cons_self);have ha:=DW hx.sh;have hnl:=gV x;have hpos:=FU x;have hch:∀y,y∈x.l->yx (rG I y) (5*nodes y):=fun y hy=>ih y hy (by have:=fK hy;omega) (fun z hz=>hp z (by rw[lW];exact List.mem_cons_of_mem _ (qF hy hz)));rw[Qy,zL];have hc:=hx.c;have hr:=hx.r;have hnu:=VU hx.sh;generalize nodes x=N at*;obtain⟨k,s,n,d,l⟩:=x;simp only[aU.kind,aU.name,aU.n,aU.d,aU.l]at*;unfold Uf
  by_cases k1:k=1;·rw[if_pos k1];exact(OH (hnu (.inl k1))).up (by omega)
  rw[if_neg k1];by_cases k2:k=2;·rw[if_pos k2];exact(hI.tot _ (by have:=hc k2;omega)).up (by omega)
  rw[if_neg k2];by_cases k3:k=3;·rw[if_pos k3];exact(wo (by omega) (by omega) (pG hI.bonus) (pG (by omega))).up (by omega)
  rw[if_neg k3];by_cases k4:k=4;·rw[if_pos k4];exact(wo (by omega) (by omega) (pG hI.malus) (pG (by omega))).up (by omega)
  rw[if_neg k4];by_cases k5:k=5
  ·rw[if_pos k5];have:=hr k5;have hlt:n.toNat<I.prev.length:=by rw[hI.prev];omega
   rw[List.getD_eq_getElem?_getD,List.getElem?_eq_getElem hlt];exact(hI.pv _ (List.getElem_mem hlt)).up (by omega)
  rw[if_neg k5];by_cases k8:k=8
  ·rw[if_neg (by omega),if_neg (by omega),if_pos k8];have h1:(l.length:Int)=1:=by rw[ha,k8];rfl
   match l,h1 with
   | [a],_=>simp only[dh]at hnl;have:=hch a List.mem_cons_self;exact(aa1 (OH (hnu (.inr k8))) this (by omega)).up (by omega)
  have hk:(k=6\/k=7\/k=9\/k=10)\/k=11:=by
   unfold mV at ha
   repeat' split at ha
   all_goals omega
  rcases hk with hk|hk
  ·have h1:(l.length:Int)=2:=by rw[ha];rcases hk with e|e|e|e<;>(rw[e];rfl)
   match l,h1 with
   | [a,b],_=>
     simp only[dh]at hnl;have ha:=hch a List.mem_cons_self;have hb:=hch b (by simp);rw[uK (rG I) (k:=0) rfl,uK (rG I) (k:=1) rfl];rcases hk with e|e|e|e;·rw[if_pos e];exact(aaZ ha hb (by omega)).up (by omega)
     ·rw[if_neg (by omega),if_pos e];exact(aa0 ha hb (by omega)).up (by omega)
     ·rw[if_neg (by omega),if_neg (by omega),if_neg k8,if_pos e];split;·exact ha.up (by omega)
      exact hb.up (by omega)
     ·rw[if_neg (by omega),if_neg (by omega),if_neg k8,if_neg (by omega),if_pos e];split;·exact ha.up (by omega)
      exact hb.up (by omega)
  ·have h1:(l.length:Int)=4:=by rw[ha,hk];rfl
   match l,h1 with
   | [a,b,c,d'],_=>
     simp only[dh]at hnl;have hc':=hch c (by simp);have hd':=hch d' (by simp);rw[if_neg (by omega),if_neg (by omega),if_neg k8,if_neg (by omega),if_neg (by omega)];rw[uK (rG I) (k:=2) rfl,uK (rG I) (k:=3) rfl];split;·exact hc'.up (by omega)
     ·exact hd'.up (by omega)
end Go.Proofs.YtlcgbfkdnmdigaaGreatDoor
