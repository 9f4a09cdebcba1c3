/- Lemmas and walks; no statement is proved here. -/
import Derived.Test.YtefnknhjlejalaaGreatDoorM13
set_option linter.unusedVariables false
set_option linter.unusedSimpArgs false
set_option maxRecDepth 20000
set_option maxHeartbeats 6000000
namespace Go.Proofs.YtefnknhjlejalaaGreatDoor
open Go.Proofs.Tryz
theorem adf{p:Prop}(h:p:=by have GG:=Hd G2.out.1;have c3:=c2;refine leavesIn_cons (f:=77) (args:=#[.pointer (some ⟨w.heap.size+1+1,0,none⟩)]) (by simp) (by simp) (by simp[go_sem]) (fun _ _=>trivial) ?_;refine(iJ ⟨w.heap.size+1+1,0,none⟩ _).mono ?_;rintro e u' w'' ⟨rfl,rfl,rfl⟩;have r2:=cZ (u:=.int .i64 0) c3;refine⟨.tuple #[.int .i64 (tV a b),.int .i64 0],?_,rfl,GG.out.bl.setCell (p:=⟨w.heap.size+1+1,0,none⟩) (by simp;omega) _⟩;rw[HC.out];simp[results,results120,go_sem,c3]):p:=h
theorem adh{p:Prop}(h:p:=by
 clear hna hnb;rw[HC.out];refine ent func32 rfl ntmps32 ?_
 gi_wp2_with (first
  |(refine Cl 61 (two_any (a:=a) (b:=b) (M:=M) ⟨A,n,c,by rw[HN.out.1],X.out.1⟩ ⟨B,m,d,by rw[HN.out.2],X.out.2.1⟩ HF.out.1 HF.out.2) ?_;rintro e w2 ⟨rfl,hb2⟩;have F2:=F.out.go hb2;have dJ:=F2;obtain⟨YN,YO,YP,Td,-,-⟩:=dJ;have G2:=Hd2 F2 hb2;clear hb2 F2)
  |(refine⟨trivial,?_⟩))
 first
  |exact⟨rfl,G2.out.1.bl⟩
  |(go_ret2;exact⟨rfl,G2.out.1.bl⟩)):p:=h
theorem adl{p:Prop}(h:p:=by have GG:=G3;refine leavesIn_cons (f:=77) (args:=#[.pointer (some ⟨w.heap.size+1+1,0,none⟩)]) (by simp) (by simp) (by simp[go_sem]) (fun _ _=>trivial) ?_;refine(iJ ⟨w.heap.size+1+1,0,none⟩ _).mono ?_;rintro e u' w'' ⟨rfl,rfl,rfl⟩;have r2:=cZ (u:=.int .i64 0) c3;refine⟨.tuple #[.int .i64 (tV a b),.int .i64 0],?_,rfl,GG.out.bl.setCell (p:=⟨w.heap.size+1+1,0,none⟩) (by simp;omega) _⟩;simp[results,results120,go_sem,c3]):p:=h
theorem adB{p:Prop}(h:p:=by constructor<;>first|(simp[go_sem];done)|(simp;done)|exact bel):p:=h
theorem aee{p:Prop}(h:p:=by
 have h1:=of_decide_eq_true hi;have h2:i.toNat<l.length:=by omega
 unfold aW;rw[List.getD_eq_getElem?_getD,List.getElem?_eq_getElem h2];exact h _ (List.getElem_mem h2)):p:=h
theorem afg{p:Prop}(h:p:=by
 first
  |exact⟨rfl,G3.out.bl⟩
  |(go_ret2;exact⟨rfl,G3.out.bl⟩)):p:=h
variable {a b z d m:Int}{k i j n D A E c:Nat}{x:InsR}{r:RatR}{l ins reg:List Rt}{M:List Nat}{w W W':World}{na nb:Bool}{va vb:Value}
def Js(a b:Rt):Rt:=eP (a.num*b.den+b.num*a.den) (a.den*b.den)
def OG(a b:Rt):Rt:=eP (a.num*b.den-b.num*a.den) (a.den*b.den)
def VQ(a b:Rt):Rt:=eP (a.num*b.num) (a.den*b.den)
def rW(a b:Rt):Int:=if a.num*b.den<b.num*a.den then-1 else if b.num*a.den<a.num*b.den then 1 else 0
theorem zy{a b:Nat}(h:a<=b):BB^a<=BB^b:=Nat.pow_le_pow_right eX h
theorem pF(h:z.natAbs<BB^k)(hk:k<=2048):fits z=true:=decide_eq_true (Nat.le_trans ((lY _ k).1 h) hk)
def Qx:Nat:=1000
structure Sh(x:Rt):Prop where
 num:x.num.natAbs<BB^Qx
 den:x.den.natAbs<BB^Qx
theorem dL(ha:a.natAbs<BB^i)(hb:b.natAbs<BB^j):(a*b).natAbs<BB^(i+j):=by rw[Int.natAbs_mul,Nat.pow_add];exact Nat.mul_lt_mul'' ha hb
theorem vZ(ha:a.natAbs<BB^i)(hb:b.natAbs<BB^i):(a+b).natAbs<BB^(i+1):=by have h1:=Int.natAbs_add_le a b;have h2:=rE;rw[Nat.pow_succ];have h3:BB^i*2<=BB^i*BB:=Nat.mul_le_mul_left _ h2;omega
theorem DU(ha:a.natAbs<BB^i)(hb:b.natAbs<BB^i):(a-b).natAbs<BB^(i+1):=by rw[Int.sub_eq_add_neg];exact vZ ha (by rwa [Int.natAbs_neg])
structure Fine(a b:Rt):Prop where
 nd:fits (a.num*b.den)=true
 dn:fits (b.num*a.den)=true
 dd:fits (a.den*b.den)=true
 nn:fits (a.num*b.num)=true
 ad:fits (a.num*b.den+b.num*a.den)=true
 sb:fits (a.num*b.den-b.num*a.den)=true
theorem Sh.fine{a b:Rt}(ha:Sh a)(hb:Sh b):Fine a b:=⟨pF (dL ha.num hb.den) (by unfold Qx;omega),pF (dL hb.num ha.den) (by unfold Qx;omega),pF (dL ha.den hb.den) (by unfold Qx;omega),pF (dL ha.num hb.num) (by unfold Qx;omega),pF (vZ (dL ha.num hb.den) (dL hb.num ha.den)) (by unfold Qx;omega),pF (DU (dL ha.num hb.den) (dL hb.num ha.den)) (by unfold Qx;omega)⟩
theorem YA{a b:Rt}(ha:a.ok)(hb:b.ok)(h:Fine a b):(Js a b).ok:=OD (Int.mul_pos ha.pos hb.pos) h.ad h.dd
theorem TN{a b:Rt}(ha:a.ok)(hb:b.ok)(h:Fine a b):(VQ a b).ok:=OD (Int.mul_pos ha.pos hb.pos) h.nn h.dd
theorem VT(a b:Rt):OG a b=Js a (negR b):=by unfold OG Js negR;simp only[Int.neg_mul,Int.sub_eq_add_neg]
theorem Fine.neg{a b:Rt}(h:Fine a b):Fine a (negR b):=by
 have e1:(negR b).num= -b.num:=rfl;have e2:(negR b).den=b.den:=rfl;refine⟨h.nd,?_,h.dd,?_,?_,?_⟩;·rw[e1,Int.neg_mul];exact DN h.dn
 ·rw[e1,Int.mul_neg];exact DN h.nn
 ·rw[e1,e2,Int.neg_mul,<-Int.sub_eq_add_neg];exact h.sb
 rw[e1,e2,Int.neg_mul,Int.sub_neg];exact h.ad
theorem Ir(a b:Rt):rW b a= -rW a b:=by
 unfold rW;generalize a.num*b.den=x;generalize b.num*a.den=y
 repeat' split
 all_goals omega
theorem YB{n:Int}(hd:0<d){K:Nat}(h:n.natAbs<=K*d.natAbs):(eP n d).num.natAbs<=K*(eP n d).den.natAbs:=by
 have h1:=congrArg Int.natAbs (Ll (n:=n) hd)
 rw[Int.natAbs_mul,Int.natAbs_mul]at h1
 have hp:0<d.natAbs:=by omega
 refine Nat.le_of_mul_le_mul_right ?_ hp
 rw[h1]
 calc n.natAbs*(eP n d).den.natAbs<=K*d.natAbs*(eP n d).den.natAbs:=Nat.mul_le_mul_right _ h
  _=K*(eP n d).den.natAbs*d.natAbs:=by rw[Nat.mul_right_comm]
theorem YC{n Z:Int}(hd:0<d)(hn:fits n=true)(hf:fits d=true)(h:d∣n*Z):(eP n d).den∣Z:=by
 obtain⟨K,hK⟩:=h
 have h1:=Ll (n:=n) hd
 have h2:=(OD hd hn hf).low
 refine Yz (y:=(eP n d).num) ⟨K,?_⟩ h2
 refine Int.eq_of_mul_eq_mul_left (show d≠0 by omega) ?_
 calc d*((eP n d).num*Z)=(eP n d).num*d*Z:=by rw[<-Int.mul_assoc,Int.mul_comm d]
  _=n*(eP n d).den*Z:=by rw[h1]
  _=n*Z*(eP n d).den:=by rw[Int.mul_right_comm]
  _=d*K*(eP n d).den:=by rw[hK]
  _=d*((eP n d).den*K):=by rw[Int.mul_assoc,Int.mul_comm K]
structure Bd(D A:Nat)(x:Rt):Prop where
 ok:x.ok
 dv:x.den∣(D:Int)
 le:x.num.natAbs<=A*x.den.natAbs
theorem Bd.up{D' A':Nat}{x:Rt}(h:Bd D A x)(hD:D∣D')(hA:A<=A'):Bd D' A' x:=⟨h.ok,Int.dvd_trans h.dv (Int.natCast_dvd_natCast.2 hD),Nat.le_trans h.le (Nat.mul_le_mul_right _ hA)⟩
theorem Bd.sh{x:Rt}(h:Bd D A x)(h0:0<D)(hD:D<BB^i)(hA:A<=BB^j)(hi:i+j<=1000):Sh x:=by
 have h1:x.den.natAbs<=D:=by have:=Int.natAbs_dvd_natAbs.2 h.dv;rw[Int.natAbs_natCast]at this;exact Nat.le_of_dvd h0 this
 have hp:=h.ok.pos;have h2:x.den.natAbs<BB^i:=by omega
 refine⟨?_,Nat.lt_of_lt_of_le h2 (zy (by unfold Qx;omega))⟩;have h3:A*x.den.natAbs<=BB^j*x.den.natAbs:=Nat.mul_le_mul_right _ hA;have h4:BB^j*x.den.natAbs<BB^j*BB^i:=Nat.mul_lt_mul_of_pos_left h2 (Nat.pow_pos eX);rw[<-Nat.pow_add]at h4;exact Nat.lt_of_le_of_lt (Nat.le_trans h.le h3) (Nat.lt_of_lt_of_le h4 (zy (by unfold Qx;omega)))
theorem Hu{a b:Rt}(ha:a.num.natAbs<=A*a.den.natAbs):(a.num*b.den).natAbs<=A*(a.den*b.den).natAbs:=by rw[Int.natAbs_mul,Int.natAbs_mul,<-Nat.mul_assoc];exact Nat.mul_le_mul_right _ ha
theorem Bd.sum{a b:Rt}(ha:Bd D A a)(hb:Bd D A b)(hf:Fine a b):Bd D (2*A) (Js a b):=by
 have hp:=Int.mul_pos ha.ok.pos hb.ok.pos;refine⟨YA ha.ok hb.ok hf,YC hp hf.ad hf.dd ?_,YB hp ?_⟩
 ·obtain⟨u,hu⟩:=ha.dv;obtain⟨v,hv⟩:=hb.dv;refine⟨a.num*u+b.num*v,?_⟩;rw[Int.add_mul,Int.mul_add];congr 1;·rw[hu];simp only[Int.mul_left_comm,Int.mul_comm]
  rw[hv];simp only[Int.mul_left_comm,Int.mul_comm]
 have h1:=Int.natAbs_add_le (a.num*b.den) (b.num*a.den);have h2:=Hu (b:=b) ha.le;have h3:=Hu (b:=a) hb.le;rw[Int.mul_comm b.den a.den]at h3;rw[Nat.mul_assoc];omega
theorem Bd.neg{a:Rt}(ha:Bd D A a):Bd D A (negR a):=⟨VP ha.ok,ha.dv,by show(-a.num).natAbs<=_;rw[Int.natAbs_neg];exact ha.le⟩
theorem Bd.diff{a b:Rt}(ha:Bd D A a)(hb:Bd D A b)(hf:Fine a b):Bd D (2*A) (OG a b):=by rw[VT];exact ha.sum hb.neg hf.neg
theorem Bd.prod{C:Nat}{a r:Rt}(ha:Bd D A a)(hr:Bd E C r)(hf:Fine a r):Bd (D*E) (A*C) (VQ a r):=by
 have hp:=Int.mul_pos ha.ok.pos hr.ok.pos
 refine⟨TN ha.ok hr.ok hf,YC hp hf.nn hf.dd ?_,YB hp ?_⟩
 ·obtain⟨u,hu⟩:=ha.dv
  obtain⟨v,hv⟩:=hr.dv;refine⟨a.num*r.num*(u*v),?_⟩;rw[Int.natCast_mul,hu,hv];simp only[Int.mul_left_comm,Int.mul_comm]
 rw[Int.natAbs_mul,Int.natAbs_mul]
 calc a.num.natAbs*r.num.natAbs<=(A*a.den.natAbs)*(C*r.den.natAbs):=Nat.mul_le_mul ha.le hr.le
  _=A*C*(a.den.natAbs*r.den.natAbs):=by simp only[Nat.mul_assoc,Nat.mul_left_comm]
def aW(l:List Rt)(i:Int):Rt:=l.getD i.toNat ⟨0,1⟩
def yc(a b:Rt):Rt:=if rW b a<0 then b else a
def yh(a b:Rt):Rt:=if rW a b<0 then b else a
def rG(ins reg:List Rt):InsR->Rt
 |(op,a,b,c,d,r)=>
  if op=1 then OE r else if op=2 then aW ins a
  else if op=3 then Js (aW reg a) (aW reg b)else if op=4 then OG (aW reg a) (aW reg b)
  else if op=5 then VQ (aW reg a) (OE r)
  else if op=6 then yc (aW reg a) (aW reg b)else if op=7 then yh (aW reg a) (aW reg b)
  else if rW (aW reg a) (aW reg b)<=0 then aW reg c else aW reg d
def jf(ins:List Rt):List Rt->List InsR->List Rt
 |reg, []=>reg
 |reg,x::p=>jf ins (reg++ [rG ins reg x]) p
abbrev Rg:=Rt×Rt
def o_(l:List Rg)(i:Int):Rg:=l.getD i.toNat (⟨0,1⟩,⟨0,1⟩)
def abv(a b:Rg):Rg:=(Js a.1 b.1,Js a.2 b.2)
def abw(a b:Rg):Rg:=(OG a.1 b.2,OG a.2 b.1)
def TP(r:Rt)(a:Rg):Rg:=if r.num<0 then(VQ a.2 r,VQ a.1 r)else(VQ a.1 r,VQ a.2 r)
def aav(a b:Rg):Rg:=(yc a.1 b.1,yc a.2 b.2)
def aaw(a b:Rg):Rg:=(yh a.1 b.1,yh a.2 b.2)
def TS(a b c d:Rg):Rg:=if ¬rW b.1 a.2<0 then c else if rW b.2 a.1<0 then d else(yc c.1 d.1,yh c.2 d.2)
def stepG(ins reg:List Rg):InsR->Rg
 |(op,a,b,c,d,r)=>
  if op=1 then(OE r,OE r)else if op=2 then o_ ins a
  else if op=3 then abv (o_ reg a) (o_ reg b)else if op=4 then abw (o_ reg a) (o_ reg b)
  else if op=5 then TP (OE r) (o_ reg a)
  else if op=6 then aav (o_ reg a) (o_ reg b)else if op=7 then aaw (o_ reg a) (o_ reg b)
  else TS (o_ reg a) (o_ reg b) (o_ reg c) (o_ reg d)
theorem uZ(ins:List Rt)(x:InsR):∀(p:List InsR) (reg:List Rt),jf ins reg (p++ [x])=jf ins reg p++ [rG ins (jf ins reg p) x]
 | [],_=>rfl
 |_::p,_=>uZ ins x p _
theorem AA(ins:List Rt):∀(p:List InsR) (reg:List Rt),(jf ins reg p).length=reg.length+p.length
 | [],_=>rfl
 |_::p,reg=>by rw[jf,AA ins p];simp;omega
def TD(D A:Nat)(l:List Rt):Prop:=∀x,x∈l->Bd D A x
theorem TD.up{D D' A A':Nat}{l:List Rt}(h:TD D A l)(hD:D∣D')(hA:A<=A'):TD D' A' l:=fun x hx=>(h x hx).up hD hA
theorem TD.at_(h:TD D A l){i:Int}(hi:bf i l.length=true):Bd D A (aW l i):=by exact aee
def Few3(r:RatR):Prop:=r.1.2.length<=3/\r.2.2.length<=3
theorem wO(hr:dF r=true)(h:Few3 r):∃E,0<E/\E<BB^3/\Bd E (BB^3) (OE r):=by
 obtain⟨x,hx,rfl⟩:=(zx r).1 hr;rw[Lm];have h1:(bG x.num).length<=3:=by have:=h.1;simpa[jd,jk,ints]using this
 have h2:(bG x.den).length<=3:=by have:=h.2;simpa[jd,jk,ints]using this
 have h3:=(lY x.num.natAbs 3).2 h1;have h4:=(lY x.den.natAbs 3).2 h2;have hp:=hx.pos;refine⟨x.den.natAbs,by omega,h4,hx,?_,?_⟩;·exact Int.dvd_natAbs.2 (Int.dvd_refl _)
 have:BB^3*1<=BB^3*x.den.natAbs:=Nat.mul_le_mul_left _ (by omega);omega
def dE(k:Nat):Nat:=400+3*k
def YT(k:Nat)(l:List Rt):Prop:=∃D,0<D/\D<BB^dE k/\TD D (BB^(30+3*k)) l
theorem Bd.Dw(hk:k<=64)(h0:0<D)(hD:D<BB^dE k){x:Rt}(h:Bd D (BB^(30+3*k)) x):Sh x:=h.sh h0 hD (Nat.le_refl _) (by unfold dE;omega)
theorem YT.sh(h:YT k l)(hk:k<=64):∀x,x∈l->x.ok/\Sh x:=by obtain⟨D,h0,hD,h⟩:=h;exact fun x hx=>⟨(h x hx).ok,(h x hx).Dw hk h0 hD⟩
theorem lV(k:Nat):2*BB^(30+3*k)<=BB^(30+3*(k+1)):=by rw[show 30+3*(k+1)=(30+3*k)+3 by omega,Nat.pow_add BB (30+3*k) 3,Nat.mul_comm];exact Nat.mul_le_mul_left _ (by decide)
theorem AB(k:Nat):BB^(30+3*k)*BB^3=BB^(30+3*(k+1)):=by rw[<-Nat.pow_add,show 30+3*k+3=30+3*(k+1) by omega]
theorem zI(k:Nat):BB^(30+3*k)<=BB^(30+3*(k+1)):=zy (by omega)
theorem VI(k:Nat)(hD:D<BB^dE k)(hE:E<BB^3):D*E<BB^dE (k+1):=by rw[show dE (k+1)=dE k+3 by unfold dE;omega,Nat.pow_add];exact Nat.mul_lt_mul'' hD hE
theorem Bl(a b:Rt):yc a b=a\/yc a b=b:=by unfold yc;split<;>simp
theorem Bo(a b:Rt):yh a b=a\/yh a b=b:=by unfold yh;split<;>simp
theorem rZ{i:Int}{op c:Int}(h:aj i m (op,a,b,c,d,r)=true):
 (op=1/\dF r=true)\/(op=2/\bf a m=true)\/((op=3\/op=4\/op=6\/op=7)/\bf a i=true/\bf b i=true)\/(op=5/\bf a i=true/\dF r=true)\/(op=8/\bf a i=true/\bf b i=true/\bf c i=true/\bf d i=true):=by
 unfold aj at h;by_cases h1:op=1;·simp[h1]at h;exact .inl ⟨h1,h.1.1.1.1⟩
 by_cases h2:op=2;·simp[h2]at h;exact .inr (.inl ⟨h2,h.1.1.1.1⟩)
 by_cases h3:op=3\/op=4\/op=6\/op=7;·simp only[h1,h2,h3,if_true,if_false,Bool.and_eq_true]at h;exact .inr (.inr (.inl ⟨h3,h.1.1.1.1,h.1.1.1.2⟩))
 by_cases h5:op=5;·simp[h5]at h;exact .inr (.inr (.inr (.inl ⟨h5,h.1.1.1.1,h.2⟩)))
 by_cases h8:op=8;·simp[h8]at h;exact .inr (.inr (.inr (.inr ⟨h8,h.1.1.1.1,h.1.1.1.2,h.1.1.2,h.1.2⟩)))
 ·simp[h1,h2,h3,h5,h8]at h
theorem TU(hk:k<=64)(hr:aj reg.length ins.length x=true)(hf:Few3 x.2.2.2.2.2)(h0:0<D)(hD:D<BB^dE k)(hA:A=BB^(30+3*k))(hi:TD D A ins)(hg:TD D A reg):
 ∃E,0<E/\E<BB^3/\Bd (D*E) (BB^(30+3*(k+1))) (rG ins reg x):=by
 subst hA;obtain⟨op,a,b,c,d,r⟩:=x;have one:∀y,Bd D (BB^(30+3*k)) y->∃E,0<E/\E<BB^3/\Bd (D*E) (BB^(30+3*(k+1))) y:=fun y hy=>⟨1,by omega,by decide,hy.up (by simp) (zI k)⟩;rcases rZ hr with⟨rfl,h1⟩|⟨rfl,h1⟩|⟨h3,h1,h2⟩|⟨rfl,h1,h2⟩|⟨rfl,h1,h2,h4,h5⟩;·obtain⟨E,e0,e1,e2⟩:=wO h1 hf;exact⟨E,e0,e1,e2.up (Nat.dvd_mul_left _ _) (zy (by omega))⟩
 ·exact one _ (hi.at_ h1)
 ·have ha:=hg.at_ h1;have hb:=hg.at_ h2;have hfn:=(ha.Dw hk h0 hD).fine (hb.Dw hk h0 hD);rcases h3 with rfl|rfl|rfl|rfl;·exact⟨1,by omega,by decide,(ha.sum hb hfn).up (by simp) (lV k)⟩
  ·exact⟨1,by omega,by decide,(ha.diff hb hfn).up (by simp) (lV k)⟩
  ·refine one _ ?_;show Bd _ _ (yc _ _);rcases Bl (aW reg a) (aW reg b)with e|e<;>rw[e]<;>assumption
  refine one _ ?_;show Bd _ _ (yh _ _);rcases Bo (aW reg a) (aW reg b)with e|e<;>rw[e]<;>assumption
 ·obtain⟨E,e0,e1,e2⟩:=wO h2 hf;have ha:=hg.at_ h1;have hs:=(e2.sh (i:=3) (j:=3) e0 e1 (Nat.le_refl _) (by omega));exact⟨E,e0,e1,AB k▸ha.prod e2 ((ha.Dw hk h0 hD).fine hs)⟩
 ·refine one _ ?_;show Bd _ _ (if rW _ _<=0 then _ else _);split;·exact hg.at_ h4
  exact hg.at_ h5
theorem YT.step(h:YT k (ins++reg))(hk:k<=64)(hr:aj reg.length ins.length x=true)(hf:Few3 x.2.2.2.2.2):YT (k+1) (ins++(reg++ [rG ins reg x])):=by
 obtain⟨D,h0,hD,h⟩:=h;obtain⟨E,e0,e1,e2⟩:=TU hk hr hf h0 hD rfl (fun y hy=>h y (List.mem_append_left _ hy)) (fun y hy=>h y (List.mem_append_right _ hy));refine⟨D*E,Nat.mul_pos h0 e0,VI k hD e1,fun y hy=>?_⟩;rw[<-List.append_assoc]at hy;rcases List.mem_append.1 hy with hy|hy;·exact(h y hy).up (Nat.dvd_mul_right _ _) (zI k)
 rw[List.mem_singleton]at hy;subst hy;exact e2
def ends:List Rg->List Rt
 | []=> []
 |x::l=>x.1::x.2::ends l
theorem oK:∀a b:List Rg,ends (a++b)=ends a++ends b
 | [],_=>rfl
 |x::a,b=>by simp[ends,oK a b]
theorem Bq{x:Rg}:∀{l:List Rg},x∈l->x.1∈ends l/\x.2∈ends l
 |y::l,h=>by
  rcases List.mem_cons.1 h with rfl|h;·simp[ends]
  have:=Bq h;simp[ends,this]
theorem qE{l:List Rg}(h:TD D A (ends l)){i:Int}(hi:bf i l.length=true):Bd D A (o_ l i).1/\Bd D A (o_ l i).2:=by
 have h1:=of_decide_eq_true hi;have h2:i.toNat<l.length:=by omega
 unfold o_;rw[List.getD_eq_getElem?_getD,List.getElem?_eq_getElem h2];have:=Bq (List.getElem_mem h2);exact⟨h _ this.1,h _ this.2⟩
theorem Nk{ins reg:List Rg}(hk:k<=64)(hr:aj reg.length ins.length x=true)(hf:Few3 x.2.2.2.2.2)(h0:0<D)(hD:D<BB^dE k)(hA:A=BB^(30+3*k))(hi:TD D A (ends ins))(hg:TD D A (ends reg)):
 ∃E,0<E/\E<BB^3/\Bd (D*E) (BB^(30+3*(k+1))) (stepG ins reg x).1/\Bd (D*E) (BB^(30+3*(k+1))) (stepG ins reg x).2:=by
 subst hA;obtain⟨op,a,b,c,d,r⟩:=x;have one:∀y:Rg,Bd D (BB^(30+3*k)) y.1->Bd D (BB^(30+3*k)) y.2->∃E,0<E/\E<BB^3/\Bd (D*E) (BB^(30+3*(k+1))) y.1/\Bd (D*E) (BB^(30+3*(k+1))) y.2:=fun y h1 h2=>⟨1,by omega,by decide,h1.up (by simp) (zI k),h2.up (by simp) (zI k)⟩;have fin:∀{y z:Rt},Bd D (BB^(30+3*k)) y->Bd D (BB^(30+3*k)) z->Fine y z:=fun hy hz=>(hy.Dw hk h0 hD).fine (hz.Dw hk h0 hD);have mn:∀{y z:Rt},Bd D (BB^(30+3*k)) y->Bd D (BB^(30+3*k)) z->Bd D (BB^(30+3*k)) (yc y z):=fun{y z} hy hz=>by rcases Bl y z with e|e<;>rw[e]<;>assumption
 have mx:∀{y z:Rt},Bd D (BB^(30+3*k)) y->Bd D (BB^(30+3*k)) z->Bd D (BB^(30+3*k)) (yh y z):=fun{y z} hy hz=>by rcases Bo y z with e|e<;>rw[e]<;>assumption
 rcases rZ hr with⟨rfl,h1⟩|⟨rfl,h1⟩|⟨h3,h1,h2⟩|⟨rfl,h1,h2⟩|⟨rfl,h1,h2,h4,h5⟩;·obtain⟨E,e0,e1,e2⟩:=wO h1 hf;have:=e2.up (Nat.dvd_mul_left E D) (zy (show 3<=30+3*(k+1) by omega));exact⟨E,e0,e1,this,this⟩
 ·exact one _ (qE hi h1).1 (qE hi h1).2
 ·obtain⟨a1,a2⟩:=qE hg h1;obtain⟨b1,b2⟩:=qE hg h2;rcases h3 with rfl|rfl|rfl|rfl;·exact⟨1,by omega,by decide,(a1.sum b1 (fin a1 b1)).up (by simp) (lV k),(a2.sum b2 (fin a2 b2)).up (by simp) (lV k)⟩
  ·exact⟨1,by omega,by decide,(a1.diff b2 (fin a1 b2)).up (by simp) (lV k),(a2.diff b1 (fin a2 b1)).up (by simp) (lV k)⟩
  ·exact one (aav _ _) (mn a1 b1) (mn a2 b2)
  exact one (aaw _ _) (mx a1 b1) (mx a2 b2)
 ·obtain⟨E,e0,e1,e2⟩:=wO h2 hf;obtain⟨a1,a2⟩:=qE hg h1;have hs:=(e2.sh (i:=3) (j:=3) e0 e1 (Nat.le_refl _) (by omega));have p1:=a1.prod e2 ((a1.Dw hk h0 hD).fine hs);have p2:=a2.prod e2 ((a2.Dw hk h0 hD).fine hs);rw[AB]at p1 p2;refine⟨E,e0,e1,?_⟩;show Bd _ _ (TP _ _).1/\Bd _ _ (TP _ _).2;unfold TP;split;·exact⟨p2,p1⟩
  exact⟨p1,p2⟩
 ·obtain⟨c1,c2⟩:=qE hg h4;obtain⟨d1,d2⟩:=qE hg h5;show ∃E,0<E/\E<BB^3/\Bd _ _ (TS _ _ _ _).1/\Bd _ _ (TS _ _ _ _).2;unfold TS;split;·exact one _ c1 c2
  split;·exact one _ d1 d2
  exact one (_,_) (mn c1 d1) (mx c2 d2)
theorem YT.stepG{ins reg:List Rg}(h:YT k (ends (ins++reg)))(hk:k<=64)(hr:aj reg.length ins.length x=true)(hf:Few3 x.2.2.2.2.2):YT (k+1) (ends (ins++(reg++ [stepG ins reg x]))):=by
 obtain⟨D,h0,hD,h⟩:=h;rw[oK]at h;obtain⟨E,e0,e1,e2,e3⟩:=Nk hk hr hf h0 hD rfl (fun y hy=>h y (List.mem_append_left _ hy)) (fun y hy=>h y (List.mem_append_right _ hy));refine⟨D*E,Nat.mul_pos h0 e0,VI k hD e1,fun y hy=>?_⟩;rw[<-List.append_assoc,oK,oK]at hy;rcases List.mem_append.1 hy with hy|hy;·exact(h y hy).up (Nat.dvd_mul_right _ _) (zI k)
 simp only[ends,List.mem_cons,List.not_mem_nil,or_false]at hy;rcases hy with rfl|rfl;·exact e2
 exact e3
theorem uG{m:Int}:∀{p:List InsR}{i:Int}{k:Nat}{x:InsR},iy m i p=true->p[k]?=some x->aj (i+k) m x=true
 |y::p,i,0,x,h,hx=>by simp only[iy,Bool.and_eq_true]at h;simp at hx;subst hx;simpa using h.1
 |y::p,i,k+1,x,h,hx=>by simp only[iy,Bool.and_eq_true]at h;have:=uG (k:=k) h.2 (by simpa using hx);rw[show i+((k+1:Nat):Int)=i+1+(k:Int) by omega];exact this
def Nl(p:List InsR):Prop:=∀x,x∈p->Few3 x.2.2.2.2.2
theorem take_snoc{α:Type}{p:List α}{x:α}(h:p[k]?=some x):p.take (k+1)=p.take k++ [x]:=by rw[List.take_add_one,h,Option.toList_some]
theorem AL{ins:List Rt}{p:List InsR}(h0:YT 0 ins)(hr:iy ins.length 0 p=true)(hf:Nl p)(hl:p.length<=64):∀k,k<=p.length->YT k (ins++jf ins [] (p.take k))
 |0,_=>by simpa[jf]using h0
 |k+1,hk=>by have h:=AL h0 hr hf hl k (by omega);obtain⟨x,hx⟩:∃x,p[k]?=some x:=⟨_,List.getElem?_eq_getElem (by omega)⟩;have h2:=uG hr hx;rw[take_snoc hx,uZ];refine h.step (by omega) ?_ (hf x (List.mem_of_getElem? hx));rw[AA,List.length_take,List.length_nil,Nat.zero_add,Nat.min_eq_left (by omega)];simpa using h2
def uS:List Rt->Nat
 | []=>1
 |x::l=>x.den.natAbs*uS l
theorem AO{x:Rt}:∀{l:List Rt},x∈l->x.den∣(uS l:Int)
 |y::l,h=>by
  have e:(uS (y::l):Int)=(y.den.natAbs:Int)*(uS l:Int):=by simp[uS]
  rw[e];rcases List.mem_cons.1 h with rfl|h;·exact Int.dvd_trans (Int.dvd_natAbs.2 (Int.dvd_refl _)) (Int.dvd_mul_right _ _)
  exact Int.dvd_trans (AO h) (Int.dvd_mul_left _ _)
theorem Bv{j:Nat}:∀{l:List Rt},(∀x,x∈l->x.den.natAbs<BB^j)->uS l<=BB^(j*l.length)
 | [],_=>by simp[uS]
 |y::l,h=>by have h1:=h y List.mem_cons_self;have h2:=Bv (l:=l) (fun x hx=>h x (List.mem_cons_of_mem _ hx));rw[List.length_cons,Nat.mul_add,Nat.mul_one,Nat.add_comm,Nat.pow_add];exact Nat.mul_le_mul (Nat.le_of_lt h1) h2
theorem AP:∀{l:List Rt},(∀x,x∈l->x.ok)->0<uS l
 | [],_=>by decide
 |y::l,h=>Nat.mul_pos (by have:=(h y List.mem_cons_self).pos;omega) (AP (fun x hx=>h x (List.mem_cons_of_mem _ hx)))
theorem Np(h:∀x,x∈l->x.ok/\x.num.natAbs<BB^30/\x.den.natAbs<BB^j)(hl:j*l.length<400):YT 0 l:=by have h9:∀e,j*l.length<e->uS l<BB^e:=fun e he=>Nat.lt_of_le_of_lt (Bv (fun x hx=>(h x hx).2.2)) (Nat.pow_lt_pow_right rE he);refine⟨uS l,AP (fun x hx=>(h x hx).1),h9 (dE 0) (by unfold dE;omega),fun x hx=>⟨(h x hx).1,AO hx,?_⟩⟩;have h1:=(h x hx).2.1;have h2:=(h x hx).1.pos;have h3:BB^30*1<=BB^30*x.den.natAbs:=Nat.mul_le_mul_left _ (by omega);show _<=BB^30*_;omega
def wP(l:List Rt):Prop:=∀x,x∈l->x.ok/\Sh x
theorem wP.ref(h:wP l){i:Int}(hi:bf i l.length=true):(aW l i).ok/\Sh (aW l i):=by exact aee
theorem TV(hr:dF r=true)(h:Few3 r):(OE r).ok/\Sh (OE r):=by obtain⟨E,e0,e1,e2⟩:=wO hr h;exact⟨e2.ok,e2.sh (i:=3) (j:=3) e0 e1 (Nat.le_refl _) (by omega)⟩
theorem wP.left{m:List Rt}(h:wP (l++m)):wP l:=fun x hx=>h x (List.mem_append_left _ hx)
theorem wP.right{m:List Rt}(h:wP (l++m)):wP m:=fun x hx=>h x (List.mem_append_right _ hx)
theorem YT.all(h:YT k l)(hk:k<=64):wP l:=h.sh hk
def aax(x:Rg):Bf:=(jd x.1,jd x.2)
def under(x:Bf):Bool:=decide (rW (OE x.2) (OE x.1)<0)
def zJ(p:List InsR)(ins:List Rt):Rt:=aW (jf ins [] p) (p.length-1)
theorem yj(p:List InsR)(m:Int):fC p m=0↔(1<=p.length/\p.length<=4096)/\iy m 0 p=true:=by
 unfold fC;split
 ·next h=>constructor;·intro e;cases e
          ·intro e;omega
 next h=>
 split;·next g=>exact⟨fun _=>⟨by omega,g⟩,fun _=>rfl⟩
 next g=>exact⟨fun e=>(by cases e),fun e=>absurd e.2 g⟩
theorem AQ{p:List InsR}(h:fC p m≠0):fC p m=190:=by
 unfold fC at*
 split;·rfl
 next g=>
 rw[if_neg g]at h;split;·next g2=>rw[if_pos g2]at h;exact absurd rfl h
 rfl
section
open Go.RowKit Go.Shelf
attribute [local go_sem] Oper.semAt_some
theorem Oa{v:Value}(hM:b_ M w)(h:ZV w M v z):Calls prog 122 #[v] w fun e w'=>∃u,e=.returned u/\ZV w' M u (-z)/\Below w.heap.size w w':=by
 refine wid ?_;obtain⟨A,n,c,rfl,hs⟩:=h;have Sm:=JA hs.eu;have S:=Hd hs;have hb:∀u:Value,Below w.heap.size w ((w.alloc (.cells #[.bool (aG z),.slice A n c] 28)).alloc (.cells #[u,.slice A n c] 28)):=fun u=>by exact bel
 clear hs;obtain⟨b,hbz⟩:=aC (aG z);rw[hbz]at Sm hb |-;have HB:=Hd hb;clear hb hbz;cases b;all_goals(
 have HN:=Hd Sm;clear Sm;refine ent func122 rfl ntmps122 ?_;gi_wp2;refine⟨rfl,_,by simp[results,go_sem];rfl,_,rfl,⟨A,n,c,by rw[HN.out];first|rfl|simp,by rw[tN];exact S.out.go (by exact bel)⟩,by exact bel⟩)
theorem two_any{v1 v2:Value}(ha:ZV w M v1 a)(hb:ZV w M v2 b)(fa:fits a=true)(fb:fits b=true):
 CB 61 #[v1,v2] (.int .i64 0) w:=by
 refine wid ?_;obtain⟨A,k1,c1,rfl,hx⟩:=ha;obtain⟨B,k2,c2,rfl,hy⟩:=hb;have Dx:=Hd (show rJ (gZ (aG a,ints (bG a)))=0 by rw[show(aG a,ints (bG a))=jk a from rfl,j_ a fa];rfl);have EX:=Hd (show rJ (gZ (aG b,ints (bG b)))=0 by rw[show(aG b,ints (bG b))=jk b from rfl,j_ b fb];rfl);have X:=Hd2 hx hy;generalize aG a=q1 at*
 generalize aG b=q2 at*
 obtain⟨W1,hW1⟩:=aC ((w.alloc (.cells #[.bool q1,.slice A k1 c1] 28)).alloc (.cells #[.bool q2,.slice B k2 c2] 28));have b1:Below w.heap.size w W1:=by rw[<-hW1];exact bel
 have s1:w.heap.size+1<W1.heap.size:=by rw[<-hW1];simp
 have e0:W1.cell? ⟨w.heap.size,0,none⟩=some (.bool q1):=by rw[<-hW1];simp[go_sem]
 have e1:W1.cell? ⟨w.heap.size,1,none⟩=some (.slice A k1 c1):=by rw[<-hW1];simp[go_sem]
 have e2:W1.cell? ⟨w.heap.size+1,0,none⟩=some (.bool q2):=by rw[<-hW1];simp[go_sem]
 have e3:W1.cell? ⟨w.heap.size+1,1,none⟩=some (.slice B k2 c2):=by rw[<-hW1];simp[go_sem]
 have F:=h_ b1 s1 e2 e3;clear hx hy fa fb b1 s1 e2 e3;refine ent func61 rfl ntmps61 ?_
 gi_wp2_with (first
  |(refine⟨trivial,?_⟩;gi_at_call 29;have g:=G2.out;clear g;refine Cn (fZ B k2 c2 _ (ints (bG b)) _ ((X.out.2.go F.out.1).go G2.out)) ?_;rintro e w3 ⟨rfl,hb3⟩;rw[EX.out];have G3:=Hd hb3;clear hb3)
  |(refine Cl 29 (fZ A k1 c1 _ (ints (bG a)) _ (X.out.1.go F.out.1)) ?_;rintro e w2 ⟨rfl,hb2⟩;rw[Dx.out];have u2:=(hb2.cell (p:=⟨w.heap.size+1,0,none⟩) F.out.2.1).trans F.out.2.2.1;have u3:=(hb2.cell (p:=⟨w.heap.size+1,1,none⟩) F.out.2.1).trans F.out.2.2.2;have G2:=Hd hb2;clear hb2)
  |fail)
 go_ret;have h2:=F.out.1.trans (G2.out.mono F.out.1.size);exact⟨rfl,h2.trans (G3.out.mono h2.size)⟩
def tV(a b:Int):Int:=if a<b then-1 else if b<a then 1 else 0
theorem Md(ha:aG a=true)(hb:aG b=true):qK b.natAbs a.natAbs=tV a b:=by
 have h1:=of_decide_eq_true ha;have h2:=of_decide_eq_true hb;unfold qK tV
 repeat' split
 all_goals omega
theorem Me(ha:aG a=false)(hb:aG b=false):qK a.natAbs b.natAbs=tV a b:=by
 have h1:=of_decide_eq_false ha;have h2:=of_decide_eq_false hb;unfold qK tV
 repeat' split
 all_goals omega
theorem Ii(ha:aG a=true)(hb:aG b=false):tV a b= -1:=by have h1:=of_decide_eq_true ha;have h2:=of_decide_eq_false hb;unfold tV;rw[if_pos (by omega)]
theorem Eo(ha:aG a=false)(hb:aG b=true):tV a b=1:=by have h1:=of_decide_eq_false ha;have h2:=of_decide_eq_true hb;unfold tV;rw[if_neg (by omega),if_pos (by omega)]
structure F3(w W:World)(na nb:Bool)(va vb:Value):Prop where
 a0:W.cell? ⟨w.heap.size,0,none⟩=some (.bool na)
 a1:W.cell? ⟨w.heap.size,1,none⟩=some va
 b0:W.cell? ⟨w.heap.size+1,0,none⟩=some (.bool nb)
 b1:W.cell? ⟨w.heap.size+1,1,none⟩=some vb
 e0:W.cell? ⟨w.heap.size+1+1,0,none⟩=some (.int .i64 0)
 fe:W.frozen? ⟨w.heap.size+1+1,0,none⟩=false
 bl:Below w.heap.size w W
 sz:w.heap.size+3<=W.heap.size
theorem F3.go(h:F3 w W na nb va vb)(hb:Below W.heap.size W W'):F3 w W' na nb va vb:=by have hs:=h.sz;have c:∀(k o:Nat) (u:Value),k<w.heap.size+3->W.cell? ⟨k,o,none⟩=some u->W'.cell? ⟨k,o,none⟩=some u:=fun k o u hk hu=>(hb.cell (p:=⟨k,o,none⟩) (show k<_ by omega)).trans hu;have f:∀(k o:Nat),k<w.heap.size+3->W.frozen? ⟨k,o,none⟩=false->W'.frozen? ⟨k,o,none⟩=false:=fun k o hk hu=>(hb.frozen (p:=⟨k,o,none⟩) (show k<_ by omega)).trans hu;exact⟨c _ _ _ (by omega) h.a0,c _ _ _ (by omega) h.a1,c _ _ _ (by omega) h.b0,c _ _ _ (by omega) h.b1,c _ _ _ (by omega) h.e0,f _ _ (by omega) h.fe,h.bl.trans (hb.mono h.bl.size),by have:=hb.size;omega⟩
theorem F3.start(w:World)(na nb:Bool)(va vb:Value)(ha:va.cells=#[va])(hb:vb.cells=#[vb]):
 F3 w (((w.alloc (.cells #[.bool na,va] 28)).alloc (.cells #[.bool nb,vb] 28)).alloc (.cells #[.int .i64 0] 31)) na nb va vb:=
 ⟨by simp[go_sem],by simp[go_sem],by simp[go_sem],by simp[go_sem],by simp[go_sem],by simp[go_sem],by exact bel,by simp⟩
def CR(w:World)(z:Int)(e:Ending)(w':World):Prop:=e=.returned (.tuple #[.int .i64 z,.int .i64 0])/\Below w.heap.size w w'
theorem WQ(hM:b_ M w)(ha:ZV w M va a)(hb:ZV w M vb b)(fa:fits a=true)(fb:fits b=true):
 Calls prog 120 #[va,vb] w (CR w (tV a b)):=by
 refine wid ?_;obtain⟨A,n,c,rfl,hx⟩:=ha;obtain⟨B,m,d,rfl,hy⟩:=hb;obtain⟨W1,hW1⟩:=aC (((w.alloc (.cells #[.bool (aG a),.slice A n c] 28)).alloc (.cells #[.bool (aG b),.slice B m d] 28)).alloc (.cells #[.int .i64 0] 31));have F1:F3 w W1 (aG a) (aG b) (.slice A n c) (.slice B m d):=by rw[<-hW1];exact F3.start w _ _ _ _ rfl rfl
 have hx2:=hx.keep (Keeps.of_below F1.bl _);have hy2:=hy.keep (Keeps.of_below F1.bl _);have SB:=Sl.QF (na:=aG a) (nb:=aG b) (hM.le F1.bl.size) hx2 hy2;have X:=Hd2 hx2 hy2;have F:=Hd F1;have HF:=Hd2 fa fb;have e0:=F1.a0;have e1:=F1.a1;have e2:=F1.b0;have e3:=F1.b1;have yU:=Hd (show Sl lG _ M (some ⟨W1.heap.size,0,none⟩) 2 2 ([a,b].map jk)from SB);clear hx hy hM hx2 hy2 F1 fa fb SB;have aaV:∀na nb,aG a=na->aG b=nb->Sl lG (W1.alloc (.cells #[.bool na,.slice A n c,.bool nb,.slice B m d] 28)) M (some ⟨W1.heap.size,0,none⟩) 2 2 ([a,b].map jk):=by rintro na nb rfl rfl;exact yU.out
 generalize hna:aG a=na at*
 generalize hnb:aG b=nb at*
 replace yU:=Hd (aaV na nb rfl rfl);clear aaV;cases na<;>cases nb
 case true.true=>
  have HC:=Hd (Md hna hnb);clear hna hnb;refine qj func120 rfl ntmps120 ?_
  gi_wp2_with (first
   |(refine Cl 111 (jo B A m d n c b.natAbs a.natAbs _ (X.out.2.go G2.out.2) (X.out.1.go G2.out.2)) ?_;rintro e w3 ⟨rfl,hb3⟩;rw[HC.out];have G3:=Hd (G2.out.1.go hb3);have c3:=G3.out.e0;have d3:=G3.out.fe;clear hb3)
   |(refine Cl 78 (iR _ 2 2 [a,b] _ yU.out (by simp[HF.out.1,HF.out.2])) ?_;rintro e w2 ⟨rfl,hb2⟩;have hb3:Below W1.heap.size W1 w2:=((Below.refl W1.heap.size W1).alloc (Nat.le_refl _) (.cells #[.bool true,.slice A n c,.bool true,.slice B m d] 28)).trans (hb2.mono (by simp));have F2:=F.out.go hb3;have v0:=F2.a0;have v1:=F2.a1;have v2:=F2.b0;have v3:=F2.b1;have c2:=F2.e0;have d2:=F2.fe;have G2:=Hd2 F2 hb3;clear hb2 hb3 F2)
   |fail)
  exact adl
 case true.false=>
  have HC:=Hd (Ii hna hnb);clear hna hnb;refine qj func120 rfl ntmps120 ?_
  gi_wp2_with (first
   |(refine Cl 78 (iR _ 2 2 [a,b] _ yU.out (by simp[HF.out.1,HF.out.2])) ?_;rintro e w2 ⟨rfl,hb2⟩;have hb3:Below W1.heap.size W1 w2:=((Below.refl W1.heap.size W1).alloc (Nat.le_refl _) (.cells #[.bool true,.slice A n c,.bool false,.slice B m d] 28)).trans (hb2.mono (by simp));have F2:=F.out.go hb3;have v0:=F2.a0;have v1:=F2.a1;have v2:=F2.b0;have v3:=F2.b1;have c2:=F2.e0;have d2:=F2.fe;have G2:=Hd2 F2 hb3;clear hb2 hb3 F2)
   |(refine⟨trivial,?_⟩))
  exact adf
 case false.true=>
  have HC:=Hd (Eo hna hnb);clear hna hnb;refine qj func120 rfl ntmps120 ?_
  gi_wp2_with (first
   |(refine Cl 78 (iR _ 2 2 [a,b] _ yU.out (by simp[HF.out.1,HF.out.2])) ?_;rintro e w2 ⟨rfl,hb2⟩;have hb3:Below W1.heap.size W1 w2:=((Below.refl W1.heap.size W1).alloc (Nat.le_refl _) (.cells #[.bool false,.slice A n c,.bool true,.slice B m d] 28)).trans (hb2.mono (by simp));have F2:=F.out.go hb3;have v0:=F2.a0;have v1:=F2.a1;have v2:=F2.b0;have v3:=F2.b1;have c2:=F2.e0;have d2:=F2.fe;have G2:=Hd2 F2 hb3;clear hb2 hb3 F2)
   |(refine⟨trivial,?_⟩))
  exact adf
 case false.false=>
  have HC:=Hd (Me hna hnb);clear hna hnb;refine qj func120 rfl ntmps120 ?_
  gi_wp2_with (first
   |(refine Cl 111 (jo A B n c m d a.natAbs b.natAbs _ (X.out.1.go G2.out.2) (X.out.2.go G2.out.2)) ?_;rintro e w3 ⟨rfl,hb3⟩;rw[HC.out];have G3:=Hd (G2.out.1.go hb3);have c3:=G3.out.e0;have d3:=G3.out.fe;clear hb3)
   |(refine Cl 78 (iR _ 2 2 [a,b] _ yU.out (by simp[HF.out.1,HF.out.2])) ?_;rintro e w2 ⟨rfl,hb2⟩;have hb3:Below W1.heap.size W1 w2:=((Below.refl W1.heap.size W1).alloc (Nat.le_refl _) (.cells #[.bool false,.slice A n c,.bool false,.slice B m d] 28)).trans (hb2.mono (by simp));have F2:=F.out.go hb3;have v0:=F2.a0;have v1:=F2.a1;have v2:=F2.b0;have v3:=F2.b1;have c2:=F2.e0;have d2:=F2.fe;have G2:=Hd2 F2 hb3;clear hb2 hb3 F2)
   |fail)
  exact adl
structure FZ(w W:World)(na nb:Bool)(va vb:Value):Prop where
 a0:W.cell? ⟨w.heap.size,0,none⟩=some (.bool na)
 a1:W.cell? ⟨w.heap.size,1,none⟩=some (va)
 b0:W.cell? ⟨w.heap.size+1,0,none⟩=some (.bool nb)
 b1:W.cell? ⟨w.heap.size+1,1,none⟩=some (vb)
 x0:W.cell? ⟨w.heap.size+1+1,0,none⟩=some (.bool false)
 x1:W.cell? ⟨w.heap.size+1+1,1,none⟩=some (.slice none 0 0)
 WR:W.frozen? ⟨w.heap.size+1+1,0,none⟩=false
 WT:W.frozen? ⟨w.heap.size+1+1,1,none⟩=false
 bl:Below w.heap.size w W
 sz:w.heap.size+3<=W.heap.size
theorem FZ.go(h:FZ w W na nb va vb)(hb:Below W.heap.size W W'):FZ w W' na nb va vb:=by have hs:=h.sz;have c:∀(k o:Nat) (u:Value),k<w.heap.size+3->W.cell? ⟨k,o,none⟩=some u->W'.cell? ⟨k,o,none⟩=some u:=fun k o u hk hu=>(hb.cell (p:=⟨k,o,none⟩) (show k<_ by omega)).trans hu;have f:∀(k o:Nat),k<w.heap.size+3->W.frozen? ⟨k,o,none⟩=false->W'.frozen? ⟨k,o,none⟩=false:=fun k o hk hu=>(hb.frozen (p:=⟨k,o,none⟩) (show k<_ by omega)).trans hu;exact⟨c _ _ _ (by omega) h.a0,c _ _ _ (by omega) h.a1,c _ _ _ (by omega) h.b0,c _ _ _ (by omega) h.b1,c _ _ _ (by omega) h.x0,c _ _ _ (by omega) h.x1,f _ _ (by omega) h.WR,f _ _ (by omega) h.WT,h.bl.trans (hb.mono h.bl.size),by have:=hb.size;omega⟩
theorem FZ.start(w:World)(na nb:Bool)(va vb:Value):FZ w ((((w).alloc (.cells #[.bool na,va] 28)).alloc (.cells #[.bool nb,vb] 28)).alloc (.cells #[.bool false,.slice none 0 0] 28)) na nb va vb:=by exact adB
theorem FZ.drew{w W:World}{na nb:Bool}{va vb:Value}(h:FZ w W na nb va vb):FZ w W.drew na nb va vb:=⟨h.a0,h.a1,h.b0,h.b1,h.x0,h.x1,h.WR,h.WT,h.bl.drew,h.sz⟩
def ZQ(w:World)(M:List Nat)(z:Int)(e:Ending)(w':World):Prop:=∃u,e=.returned (.tuple #[u,.int .i64 0])/\ZV w' M u z/\Below w.heap.size w w'
theorem fin2{V:World}{b s:Nat}{A:Option Addr}{q:Bool}{u0 u1:Value}(h0:V.cell? ⟨b,0,none⟩=some u0)(h1:V.cell? ⟨b,1,none⟩=some u1)
 (hz:ZV V (b::M) (.agg #[.bool q,.slice A n c]) z) (hb:Below s w V) (hsb:s<=b):
 ∃wF,(V.setCell ⟨b,0,none⟩ (.bool q)).setCell ⟨b,1,none⟩ (.slice A n c)=wF/\wF.cell? ⟨b,0,none⟩=some (.bool q)/\wF.cell? ⟨b,1,none⟩=some (.slice A n c)/\ZV wF M (.agg #[.bool q,.slice A n c]) z/\Below s w wF:=by
 have kp:=((Keeps.refl (b::M) V).setCell (p:=⟨b,0,none⟩) (.inl (by simp)) (.bool q)).setCell (p:=⟨b,1,none⟩) (.inl (by simp)) (.slice A n c);refine⟨_,rfl,by simp[go_sem,h0,h1],by simp[go_sem,h0,h1],?_,(hb.setCell (p:=⟨b,0,none⟩) hsb _).setCell (p:=⟨b,1,none⟩) hsb _⟩;obtain⟨A',n',c',e,hs⟩:=hz;exact⟨A',n',c',e,(hs.keep kp).less (fun k hk=>List.mem_cons_of_mem _ hk)⟩
theorem zL{A:Option Addr}{v:Nat}{neg:Bool}{l:List Nat}(hM:b_ M w)(hx:Sl Int w M A n c (ints l))(hg:Good l)(hv:val l=v)(hz:gJ neg v=z)(hf:fits z=true):
 Calls prog 63 #[.bool neg,.slice A n c] w fun e w'=>∃q A' n' c',e=.returned (.tuple #[.agg #[.bool q,.slice A' n' c'],.int .i64 0])/\ZV w' M (.agg #[.bool q,.slice A' n' c']) z/\Below w.heap.size w w':=by
 subst hz;refine(Zc hM hx hg hv).mono ?_;rintro e w' ⟨u,rfl,hz,hb⟩;rw[nJ hf];rw[nK hf]at hz;obtain⟨A',n',c',rfl,h⟩:=hz;exact⟨_,A',n',c',rfl,⟨A',n',c',rfl,h⟩,hb⟩
theorem FZ.begin(hM:b_ M w){A B:Option Addr}{m d:Nat}(hx:Sl Int w M A n c (ints (bG a)))(hy:Sl Int w M B m d (ints (bG b))):
 ∃W1,(((w).alloc (.cells #[.bool na,.slice A n c] 28)).alloc (.cells #[.bool nb,.slice B m d] 28)).alloc (.cells #[.bool false,.slice none 0 0] 28)=W1/\FZ w W1 na nb (.slice A n c) (.slice B m d)/\Sl Int W1 ((w.heap.size+1+1)::M) A n c (ints (bG a))/\Sl Int W1 ((w.heap.size+1+1)::M) B m d (ints (bG b))/\b_ ((w.heap.size+1+1)::M) W1:=by
 have F1:=FZ.start w na nb (.slice A n c) (.slice B m d);refine⟨_,rfl,F1,(hx.more (b:=w.heap.size+1+1) (by omega)).go F1.bl,(hy.more (b:=w.heap.size+1+1) (by omega)).go F1.bl,fun k hk=>?_⟩;have:=F1.sz;exact aew
theorem wQ(hM:b_ M w)(ha:ZV w M va a)(hb:ZV w M vb b)(fa:fits a=true)(fb:fits b=true)(fab:fits (a*b)=true):
 Calls prog 93 #[va,vb] w (ZQ w M (a*b)):=by
 refine wid ?_;obtain⟨A,n,c,rfl,hx⟩:=ha;obtain⟨B,m,d,rfl,hy⟩:=hb;have hn:=yG fa hx.eu;have hm:=yG fb hy.eu;obtain⟨na,hna⟩:=aC (aG a);obtain⟨nb,hnb⟩:=aC (aG b);have hres:gJ (na !=nb) (a.natAbs*b.natAbs)=a*b:=by rw[<-hna,<-hnb];exact Yy a b
 rw[hna,hnb];obtain⟨W1,hW1,F1,hx2,hy2,hM2⟩:=FZ.begin (na:=na) (nb:=nb) hM hx hy;have X:=fB hx2 hy2 hM2;have HN:=Hd2 hna hnb;have HF:=h_ fa fb fab trivial;have HR:=Hd hres;have F:=Hd F1;have dJ:=F1;obtain⟨T_,Ua,Ub,Uc,Zj,Zk,EN,EO,-,-⟩:=dJ;clear hx hy hM hx2 hy2 hM2 hna hnb fa fb fab hres;cases na<;>cases nb
 all_goals(
 refine ent func93 rfl ntmps93 ?_;gi_wp2_with (refine Cl 61 (two_any (a:=a) (b:=b) (M:=(w.heap.size+1+1)::M) ⟨A,n,c,by rw[HN.out.1],X.out.1⟩ ⟨B,m,d,by rw[HN.out.2],X.out.2.1⟩ HF.out.1 HF.out.2.1) ?_;rintro e w2 ⟨rfl,hb2⟩;have F2:=F.out.go hb2;have Zl:=F2.drew;have dJ:=F2;obtain⟨YN,YO,YP,Td,Sr,Sv,YW,YX,-,-⟩:=dJ;have dJ:=Zl;obtain⟨Oi,Oj,Ol,Om,yx0,yx1,I8,I9,-,-⟩:=dJ;have v0:=ah YN;have v1:=ah YO;have v2:=ah YP;have v3:=ah Td;have G2:=Hd2 Zl hb2;clear hb2 F2 Zl)
 refine aP [] 13 (by kernel_rfl) (by kernel_rfl) ?_;refine ay 0 ?_;refine ay 1 ?_;refine ay 2 ?_;refine ay 3 ?_;refine ay 4 ?_;refine ay 5 ?_;refine ay 6 ?_;refine ay 7 ?_;refine ay 8 ?_;refine eU 9 fun K hK=>?_;gi_wp2;refine Cm (D_ (x:=a.natAbs) (y:=b.natAbs) (X.out.2.2.le (w':=w2.drew) G2.out.2.size) ((X.out.1.go G2.out.2).keep (Keeps.refl _ _).drew) ((X.out.2.1.go G2.out.2).keep (Keeps.refl _ _).drew) (by omega) (by omega)) ?_;rintro e w3 ⟨A3,n3,c3,rfl,hs3,hb3⟩;have G3:=fB hs3 (G2.out.1.go hb3) hb3;clear hs3;refine hK _ _ ⟨?_,?_⟩;clear hK K;·exact Keeps.of_below hb3 []
 refine lit ?_;clear hb3;refine eU 10 fun K hK=>?_;gi_wp2;refine Cm (zL (v:=a.natAbs*b.natAbs) (z:=a*b) (X.out.2.2.le (Nat.le_trans G2.out.2.size G3.out.2.2.size)) G3.out.1 (aO _) (bI _) HR.out HF.out.2.2.1) ?_;rintro e w4 ⟨q,A4,n4,c4,rfl,Ie,hb4⟩;have F4:=G3.out.2.1.go hb4;have H4:=Hd2 Ie F4;have dJ:=F4;obtain⟨sa0,sa1,sb0,sb1,I_,Jg,Jh,Ji,-,-⟩:=dJ;clear Ie F4;refine hK _ _ ⟨?_,?_⟩;clear hK K;·exact Keeps.of_below hb4 []
 refine lit ?_;clear hb4;refine ay 11 ?_;refine ay 12 ?_;refine iq 2 ?_;refine jW fun K hK K' hK'=>?_;gi_wp2;refine jW fun K hK K' hK'=>?_;gi_wp2;refine tail_nil _ ?_;simp only[cu];gi_wp2;obtain⟨wF,hwF,r0,r1,hz,Az⟩:=fin2 (M:=M) I_ Jg H4.out.1 H4.out.2.bl (by omega);rw[hwF];refine⟨rfl,.tuple #[.agg #[.bool q,.slice A4 n4 c4],.int .i64 0],by simp[results,go_sem,r0,r1],_,rfl,hz,Az⟩)
theorem C_(hM:b_ M w)(ha:ZV w M va a)(hb:ZV w M vb b)(fa:fits a=true)(fb:fits b=true)(fab:fits (a+b)=true):
 Calls prog 90 #[va,vb] w (ZQ w M (a+b)):=by
 refine wid ?_;obtain⟨A,n,c,rfl,hx⟩:=ha;obtain⟨B,m,d,rfl,hy⟩:=hb;have hn:=yG fa hx.eu;have hm:=yG fb hy.eu;obtain⟨na,hna⟩:=aC (aG a);obtain⟨nb,hnb⟩:=aC (aG b);rw[hna,hnb];obtain⟨W1,hW1,F1,hx2,hy2,hM2⟩:=FZ.begin (na:=na) (nb:=nb) hM hx hy;have X:=fB hx2 hy2 hM2;have HN:=Hd2 hna hnb;have HF:=h_ fa fb fab trivial;have F:=Hd F1;have dJ:=F1;obtain⟨T_,Ua,Ub,Uc,Zj,Zk,EN,EO,-,-⟩:=dJ;clear hx hy hM hx2 hy2 hM2 fa fb fab;by_cases hs:na=nb
 ·subst hs;have HR:=Hd (show gJ na (a.natAbs+b.natAbs)=a+b by rw[<-hna];exact add_same (hna.trans hnb.symm));clear hna hnb;cases na;all_goals(
  refine ent func90 rfl ntmps90 ?_;gi_wp2_with ((refine Cl 61 (two_any (a:=a) (b:=b) (M:=(w.heap.size+1+1)::M) ⟨A,n,c,by rw[HN.out.1],X.out.1⟩ ⟨B,m,d,by rw[HN.out.2],X.out.2.1⟩ HF.out.1 HF.out.2.1) ?_;rintro e w2 ⟨rfl,hb2⟩;have F2:=F.out.go hb2;have dJ:=F2;obtain⟨YN,YO,YP,Td,Sr,Sv,YW,YX,-,-⟩:=dJ;have G2:=Hd2 F2 hb2;clear hb2 F2))
  have Zl:=G2.out.1.drew;have dJ:=Zl;obtain⟨Oi,Oj,Ol,Om,yx0,yx1,I8,I9,-,-⟩:=dJ;have v0:=stays (w:=w2.drew) Oi;have v1:=stays (w:=w2.drew) Oj;have v2:=stays (w:=w2.drew) Ol;have v3:=stays (w:=w2.drew) Om;refine aP [] 10 (by kernel_rfl) (by kernel_rfl) ?_;refine ay 0 ?_;refine ay 1 ?_;refine ay 2 ?_;refine ay 3 ?_;refine ay 4 ?_;refine ay 5 ?_;refine eU 6 fun K hK=>?_;gi_wp2;refine Cm (IL (x:=a.natAbs) (y:=b.natAbs) (X.out.2.2.le (w':=w2.drew) G2.out.2.size) ((X.out.1.go G2.out.2).keep (Keeps.refl _ _).drew) ((X.out.2.1.go G2.out.2).keep (Keeps.refl _ _).drew) (by omega) (by omega)) ?_;rintro e w3 ⟨A3,n3,c3,l3,rfl,hs3,hg3,hv3,hb3⟩;have G3:=Hd5 hs3 (G2.out.1.drew.go hb3) (X.out.2.2.le (Nat.le_trans G2.out.2.size hb3.size)) hg3 hv3;clear hs3 hg3 hv3;refine hK _ _ ⟨?_,?_⟩;clear hK K;·exact Keeps.of_below hb3 []
  refine lit ?_;clear hb3;refine eU 7 fun K hK=>?_;gi_wp2;refine Cm (zL (v:=a.natAbs+b.natAbs) (z:=a+b) (G3.out.2.2.1) G3.out.1 G3.out.2.2.2.1 G3.out.2.2.2.2 HR.out HF.out.2.2.1) ?_;rintro e w4 ⟨q,A4,n4,c4,rfl,Ie,hb4⟩;have F4:=G3.out.2.1.go hb4;have H4:=Hd2 Ie F4;have dJ:=F4;obtain⟨sa0,sa1,sb0,sb1,I_,Jg,Jh,Ji,-,-⟩:=dJ;clear Ie F4;refine hK _ _ ⟨?_,?_⟩;clear hK K;·exact Keeps.of_below hb4 []
  refine lit ?_;clear hb4;refine ay 8 ?_;refine ay 9 ?_;refine iq 2 ?_;refine jW fun K hK K' hK'=>?_;gi_wp2;refine jW fun K hK K' hK'=>?_;gi_wp2;refine tail_nil _ ?_;simp only[cu];gi_wp2;obtain⟨wF,hwF,r0,r1,hz,Az⟩:=fin2 (M:=M) I_ Jg H4.out.1 H4.out.2.bl (by omega);rw[hwF];refine⟨rfl,.tuple #[.agg #[.bool q,.slice A4 n4 c4],.int .i64 0],by simp[results,go_sem,r0,r1],_,rfl,hz,Az⟩)
 ·have hne:aG a≠aG b:=fun e=>hs (hna.symm.trans (e.trans hnb));by_cases hle:b.natAbs<=a.natAbs
  ·have HR:=Hd (show gJ na (a.natAbs-b.natAbs)=a+b by rw[<-hna];exact Ht hne hle);obtain⟨cz,hcz⟩:=aC (qK a.natAbs b.natAbs);have YS:0<=cz:=by
    rcases Nat.lt_or_ge b.natAbs a.natAbs with h|h;·rw[<-hcz,pJ h];decide
    rw[<-hcz,uM (by omega)];decide
   have HC:=Hd hcz;clear hna hnb hne hcz;cases na<;>cases nb
   case pos.false.false=>exact absurd rfl hs
   case pos.true.true=>exact absurd rfl hs
   all_goals(
   clear hs;refine ent func90 rfl ntmps90 ?_
   gi_wp2_with (first
    |(refine⟨trivial,?_⟩;gi_at_call 64;have g:=G2.out;clear g;refine Cn (tH A B n c m d a.natAbs b.natAbs _ (X.out.1.go G2.out.2) (X.out.2.1.go G2.out.2)) ?_;rintro e w3 ⟨rfl,hb3⟩;rw[HC.out];have F3:=G2.out.1.go hb3;have dJ:=F3;obtain⟨ta0,ta1,tb0,tb1,V8,V9,Oo,Oq,-,-⟩:=dJ;have Jj:=Hd2 F3 (G2.out.2.trans (hb3.mono G2.out.2.size));clear hb3 F3)
    |(refine Cl 61 (two_any (a:=a) (b:=b) (M:=(w.heap.size+1+1)::M) ⟨A,n,c,by rw[HN.out.1],X.out.1⟩ ⟨B,m,d,by rw[HN.out.2],X.out.2.1⟩ HF.out.1 HF.out.2.1) ?_;rintro e w2 ⟨rfl,hb2⟩;have F2:=F.out.go hb2;have dJ:=F2;obtain⟨YN,YO,YP,Td,Sr,Sv,YW,YX,-,-⟩:=dJ;have G2:=Hd2 F2 hb2;clear hb2 F2)
    |fail)
   have F3d:=Jj.out.1.drew;have dJ:=F3d;obtain⟨Oi,Oj,Ol,Om,yx0,yx1,I8,I9,-,-⟩:=dJ;have v0:=stays (w:=w3.drew) Oi;have v1:=stays (w:=w3.drew) Oj;have v2:=stays (w:=w3.drew) Ol;have v3:=stays (w:=w3.drew) Om;refine aP [] 10 (by kernel_rfl) (by kernel_rfl) ?_;refine ay 0 ?_;refine ay 1 ?_;refine ay 2 ?_;refine ay 3 ?_;refine ay 4 ?_;refine ay 5 ?_;refine eU 6 fun K hK=>?_;gi_wp2;refine Cm (SX (x:=a.natAbs) (y:=b.natAbs) (X.out.2.2.le (w':=w3.drew) Jj.out.2.size) ((X.out.1.go Jj.out.2).keep (Keeps.refl _ _).drew) ((X.out.2.1.go Jj.out.2).keep (Keeps.refl _ _).drew) (by omega) (by omega)) ?_;rintro e w5 ⟨A3,n3,c3,rfl,hs3,hb3⟩;have G3:=h_ hs3 (Jj.out.1.drew.go hb3) (X.out.2.2.le (Nat.le_trans Jj.out.2.size hb3.size)) hb3;clear hs3;refine hK _ _ ⟨?_,?_⟩;clear hK K;·exact Keeps.of_below hb3 []
   refine lit ?_;clear hb3;refine eU 7 fun K hK=>?_;gi_wp2;refine Cm (zL (v:=a.natAbs-b.natAbs) (z:=a+b) (G3.out.2.2.1) G3.out.1 (aO _) (bI _) HR.out HF.out.2.2.1) ?_;rintro e w4 ⟨q,A4,n4,c4,rfl,Ie,hb4⟩;have F4:=G3.out.2.1.go hb4;have H4:=Hd2 Ie F4;have dJ:=F4;obtain⟨sa0,sa1,sb0,sb1,I_,Jg,Jh,Ji,-,-⟩:=dJ;clear Ie F4;refine hK _ _ ⟨?_,?_⟩;clear hK K;·exact Keeps.of_below hb4 []
   refine lit ?_;clear hb4;refine ay 8 ?_;refine ay 9 ?_;refine iq 2 ?_;refine jW fun K hK K' hK'=>?_;gi_wp2;refine jW fun K hK K' hK'=>?_;gi_wp2;refine tail_nil _ ?_;simp only[cu];gi_wp2;obtain⟨wF,hwF,r0,r1,hz,Az⟩:=fin2 (M:=M) I_ Jg H4.out.1 H4.out.2.bl (by omega);rw[hwF];refine⟨rfl,.tuple #[.agg #[.bool q,.slice A4 n4 c4],.int .i64 0],by simp[results,go_sem,r0,r1],_,rfl,hz,Az⟩)
  have HR:=Hd (show gJ nb (b.natAbs-a.natAbs)=a+b by rw[<-hnb,Int.add_comm];exact Ht hne.symm (by omega));obtain⟨cz,hcz⟩:=aC (qK a.natAbs b.natAbs);have YS:¬0<=cz:=by rw[<-hcz,pI (by omega)];decide
  have HC:=Hd hcz;clear hna hnb hne hcz;cases na<;>cases nb
  case neg.false.false=>exact absurd rfl hs
  case neg.true.true=>exact absurd rfl hs
  all_goals(
  clear hs;refine ent func90 rfl ntmps90 ?_
  gi_wp2_with (first
   |(refine⟨trivial,?_⟩;gi_at_call 64;have g:=G2.out;clear g;refine Cn (tH A B n c m d a.natAbs b.natAbs _ (X.out.1.go G2.out.2) (X.out.2.1.go G2.out.2)) ?_;rintro e w3 ⟨rfl,hb3⟩;rw[HC.out];have F3:=G2.out.1.go hb3;have dJ:=F3;obtain⟨ta0,ta1,tb0,tb1,V8,V9,Oo,Oq,-,-⟩:=dJ;have Jj:=Hd2 F3 (G2.out.2.trans (hb3.mono G2.out.2.size));clear hb3 F3)
   |(refine Cl 61 (two_any (a:=a) (b:=b) (M:=(w.heap.size+1+1)::M) ⟨A,n,c,by rw[HN.out.1],X.out.1⟩ ⟨B,m,d,by rw[HN.out.2],X.out.2.1⟩ HF.out.1 HF.out.2.1) ?_;rintro e w2 ⟨rfl,hb2⟩;have F2:=F.out.go hb2;have dJ:=F2;obtain⟨YN,YO,YP,Td,Sr,Sv,YW,YX,-,-⟩:=dJ;have G2:=Hd2 F2 hb2;clear hb2 F2)
   |fail)
  have F3d:=Jj.out.1.drew;have dJ:=F3d;obtain⟨Oi,Oj,Ol,Om,yx0,yx1,I8,I9,-,-⟩:=dJ;have v0:=stays (w:=w3.drew) Oi;have v1:=stays (w:=w3.drew) Oj;have v2:=stays (w:=w3.drew) Ol;have v3:=stays (w:=w3.drew) Om;refine aP [] 10 (by kernel_rfl) (by kernel_rfl) ?_;refine ay 0 ?_;refine ay 1 ?_;refine ay 2 ?_;refine ay 3 ?_;refine ay 4 ?_;refine ay 5 ?_;refine eU 6 fun K hK=>?_;gi_wp2;refine Cm (SX (x:=b.natAbs) (y:=a.natAbs) (X.out.2.2.le (w':=w3.drew) Jj.out.2.size) ((X.out.2.1.go Jj.out.2).keep (Keeps.refl _ _).drew) ((X.out.1.go Jj.out.2).keep (Keeps.refl _ _).drew) (by omega) (by omega)) ?_;rintro e w5 ⟨A3,n3,c3,rfl,hs3,hb3⟩;have G3:=h_ hs3 (Jj.out.1.drew.go hb3) (X.out.2.2.le (Nat.le_trans Jj.out.2.size hb3.size)) hb3;clear hs3;refine hK _ _ ⟨?_,?_⟩;clear hK K;·exact Keeps.of_below hb3 []
  refine lit ?_;clear hb3;refine eU 7 fun K hK=>?_;gi_wp2;refine Cm (zL (v:=b.natAbs-a.natAbs) (z:=a+b) (G3.out.2.2.1) G3.out.1 (aO _) (bI _) HR.out HF.out.2.2.1) ?_;rintro e w4 ⟨q,A4,n4,c4,rfl,Ie,hb4⟩;have F4:=G3.out.2.1.go hb4;have H4:=Hd2 Ie F4;have dJ:=F4;obtain⟨sa0,sa1,sb0,sb1,I_,Jg,Jh,Ji,-,-⟩:=dJ;clear Ie F4;refine hK _ _ ⟨?_,?_⟩;clear hK K;·exact Keeps.of_below hb4 []
  refine lit ?_;clear hb4;refine ay 8 ?_;refine ay 9 ?_;refine iq 2 ?_;refine jW fun K hK K' hK'=>?_;gi_wp2;refine jW fun K hK K' hK'=>?_;gi_wp2;refine tail_nil _ ?_;simp only[cu];gi_wp2;obtain⟨wF,hwF,r0,r1,hz,Az⟩:=fin2 (M:=M) I_ Jg H4.out.1 H4.out.2.bl (by omega);rw[hwF];refine⟨rfl,.tuple #[.agg #[.bool q,.slice A4 n4 c4],.int .i64 0],by simp[results,go_sem,r0,r1],_,rfl,hz,Az⟩)
theorem Ot(hM:b_ M w)(ha:ZV w M va a)(hb:ZV w M vb b)(fa:fits a=true)(fb:fits b=true)(fab:fits (a-b)=true):
 Calls prog 92 #[va,vb] w (ZQ w M (a-b)):=by
 refine wid ?_;obtain⟨A,n,c,rfl,hx⟩:=ha;obtain⟨B,m,d,rfl,hy⟩:=hb;obtain⟨na,hna⟩:=aC (aG a);obtain⟨nb,hnb⟩:=aC (aG b);rw[hna,hnb];obtain⟨W1,hW1,F1,hx2,hy2,hM2⟩:=FZ.begin (na:=na) (nb:=nb) hM hx hy;have X:=fB hx2 hy2 hM2;have HN:=Hd2 hna hnb;have HF:=h_ fa fb (show fits (a+ -b)=true by rw[<-Int.sub_eq_add_neg];exact fab) (DN fb);have F:=Hd F1;rw[Int.sub_eq_add_neg];have dJ:=F1;obtain⟨T_,Ua,Ub,Uc,Zj,Zk,EN,EO,-,-⟩:=dJ;clear hx hy hM hx2 hy2 hM2 fa fb fab hna hnb;refine ent func92 rfl ntmps92 ?_;gi_wp2_with ((refine Cl 61 (two_any (a:=a) (b:=b) (M:=(w.heap.size+1+1)::M) ⟨A,n,c,by rw[HN.out.1],X.out.1⟩ ⟨B,m,d,by rw[HN.out.2],X.out.2.1⟩ HF.out.1 HF.out.2.1) ?_;rintro e w2 ⟨rfl,hb2⟩;have F2:=F.out.go hb2;have dJ:=F2;obtain⟨YN,YO,YP,Td,Sr,Sv,YW,YX,-,-⟩:=dJ;have G2:=Hd2 F2 hb2;clear hb2 F2))
 have Zl:=G2.out.1.drew;have dJ:=Zl;obtain⟨Oi,Oj,Ol,Om,yx0,yx1,I8,I9,-,-⟩:=dJ;have v0:=stays (w:=w2.drew) Oi;have v1:=stays (w:=w2.drew) Oj;have v2:=stays (w:=w2.drew) Ol;have v3:=stays (w:=w2.drew) Om;have zA:ZV w2.drew ((w.heap.size+1+1)::M) (.agg #[.bool na,.slice A n c]) a:=⟨A,n,c,by rw[HN.out.1],(X.out.1.go G2.out.2).keep (Keeps.refl _ _).drew⟩;have zB:ZV w2.drew ((w.heap.size+1+1)::M) (.agg #[.bool nb,.slice B m d]) b:=⟨B,m,d,by rw[HN.out.2],(X.out.2.1.go G2.out.2).keep (Keeps.refl _ _).drew⟩;have HZ:=Hd2 zA zB;clear zA zB;refine aP [] 6 (by kernel_rfl) (by kernel_rfl) ?_;refine ay 0 ?_;refine ay 1 ?_;refine eU 2 fun K hK=>?_;gi_wp2;refine Cm (Oa (z:=b) (X.out.2.2.le (w':=w2.drew) G2.out.2.size) HZ.out.2) ?_;rintro e w3 ⟨u3,rfl,hz3,hb3⟩;have G3:=h_ hz3 (G2.out.1.drew.go hb3) hb3 (X.out.2.2.le (Nat.le_trans G2.out.2.size hb3.size));clear hz3;refine hK _ _ ⟨?_,?_⟩;clear hK K;·exact Keeps.of_below hb3 []
 refine lit ?_;clear hb3;refine eU 3 fun K hK=>?_;gi_wp2;refine Cm (C_ (a:=a) (b:= -b) G3.out.2.2.2 (HZ.out.1.go G3.out.2.2.1) G3.out.1 HF.out.1 HF.out.2.2.2 HF.out.2.2.1) ?_;rintro e w4 ⟨u4,rfl,⟨A4,n4,c4,rfl,Ie⟩,hb4⟩;have F4:=G3.out.2.1.go hb4;obtain⟨q,hq⟩:=aC (aG (a+ -b));rw[hq];have H4:=Hd2 (show ZV w4 ((w.heap.size+1+1)::M) (.agg #[.bool q,.slice A4 n4 c4]) (a+ -b)from⟨A4,n4,c4,by rw[hq],Ie⟩) F4;have dJ:=F4;obtain⟨sa0,sa1,sb0,sb1,I_,Jg,Jh,Ji,-,-⟩:=dJ;clear Ie F4 hq;refine hK _ _ ⟨?_,?_⟩;clear hK K;·exact Keeps.of_below hb4 []
 refine lit ?_;clear hb4;refine ay 4 ?_;refine ay 5 ?_;refine iq 2 ?_;refine jW fun K hK K' hK'=>?_;gi_wp2;refine jW fun K hK K' hK'=>?_;gi_wp2;refine tail_nil _ ?_;simp only[cu];gi_wp2;obtain⟨wF,hwF,r0,r1,hz,Az⟩:=fin2 (M:=M) I_ Jg H4.out.1 H4.out.2.bl (by omega);rw[hwF];refine⟨rfl,.tuple #[.agg #[.bool q,.slice A4 n4 c4],.int .i64 0],by simp[results,go_sem,r0,r1],_,rfl,hz,Az⟩
structure FY(w W:World)(na nb:Bool)(va vb:Value):Prop where
 a0:W.cell? ⟨w.heap.size,0,none⟩=some (.bool na)
 a1:W.cell? ⟨w.heap.size,1,none⟩=some (va)
 b0:W.cell? ⟨w.heap.size+1,0,none⟩=some (.bool nb)
 b1:W.cell? ⟨w.heap.size+1,1,none⟩=some (vb)
 bl:Below w.heap.size w W
 sz:w.heap.size+2<=W.heap.size
theorem FY.go(h:FY w W na nb va vb)(hb:Below W.heap.size W W'):FY w W' na nb va vb:=by have hs:=h.sz;have c:∀(k o:Nat) (u:Value),k<w.heap.size+2->W.cell? ⟨k,o,none⟩=some u->W'.cell? ⟨k,o,none⟩=some u:=fun k o u hk hu=>(hb.cell (p:=⟨k,o,none⟩) (show k<_ by omega)).trans hu;exact⟨c _ _ _ (by omega) h.a0,c _ _ _ (by omega) h.a1,c _ _ _ (by omega) h.b0,c _ _ _ (by omega) h.b1,h.bl.trans (hb.mono h.bl.size),by have:=hb.size;omega⟩
theorem FY.start(w:World)(na nb:Bool)(va vb:Value):FY w (((w).alloc (.cells #[.bool na,va] 28)).alloc (.cells #[.bool nb,vb] 28)) na nb va vb:=by exact adB
theorem FY.drew{w W:World}{na nb:Bool}{va vb:Value}(h:FY w W na nb va vb):FY w W.drew na nb va vb:=⟨h.a0,h.a1,h.b0,h.b1,h.bl.drew,h.sz⟩
theorem WU(hM:b_ M w)(ha:ZV w M va a)(hb:ZV w M vb b)(fa:fits a=true)(fb:fits b=true):
 Calls prog 32 #[va,vb] w (CR w (tV a b)):=by
 refine wid ?_;obtain⟨A,n,c,rfl,hx⟩:=ha;obtain⟨B,m,d,rfl,hy⟩:=hb;obtain⟨na,hna⟩:=aC (aG a);obtain⟨nb,hnb⟩:=aC (aG b);rw[hna,hnb];obtain⟨W1,hW1⟩:=aC (((w).alloc (.cells #[.bool na,.slice A n c] 28)).alloc (.cells #[.bool nb,.slice B m d] 28));have F1:FY w W1 na nb (.slice A n c) (.slice B m d):=by rw[<-hW1];exact FY.start w _ _ _ _
 have X:=fB (hx.go F1.bl) (hy.go F1.bl) (hM.le F1.bl.size);have HN:=Hd2 hna hnb;have HF:=Hd2 fa fb;have F:=Hd F1;have dJ:=F1;obtain⟨T_,Ua,Ub,Uc,-,-⟩:=dJ;clear hx hy hM fa fb;cases na<;>cases nb
 case true.true=>
  have HC:=Hd (Md hna hnb);clear hna hnb;refine ent func32 rfl ntmps32 ?_
  gi_wp2_with (first
   |(refine Cl 64 (tH B A m d n c b.natAbs a.natAbs _ (X.out.2.1.go G2.out.2) (X.out.1.go G2.out.2)) ?_;rintro e w3 ⟨rfl,hb3⟩;rw[HC.out];have G3:=Hd (G2.out.1.go hb3);clear hb3)
   |(refine Cl 61 (two_any (a:=a) (b:=b) (M:=M) ⟨A,n,c,by rw[HN.out.1],X.out.1⟩ ⟨B,m,d,by rw[HN.out.2],X.out.2.1⟩ HF.out.1 HF.out.2) ?_;rintro e w2 ⟨rfl,hb2⟩;have F2:=F.out.go hb2;have dJ:=F2;obtain⟨YN,YO,YP,Td,-,-⟩:=dJ;have G2:=Hd2 F2 hb2;clear hb2 F2)
   |(refine⟨trivial,?_⟩))
  exact afg
 case false.false=>
  have HC:=Hd (Me hna hnb);clear hna hnb;refine ent func32 rfl ntmps32 ?_
  gi_wp2_with (first
   |(refine Cl 64 (tH A B n c m d a.natAbs b.natAbs _ (X.out.1.go G2.out.2) (X.out.2.1.go G2.out.2)) ?_;rintro e w3 ⟨rfl,hb3⟩;rw[HC.out];have G3:=Hd (G2.out.1.go hb3);clear hb3)
   |(refine Cl 61 (two_any (a:=a) (b:=b) (M:=M) ⟨A,n,c,by rw[HN.out.1],X.out.1⟩ ⟨B,m,d,by rw[HN.out.2],X.out.2.1⟩ HF.out.1 HF.out.2) ?_;rintro e w2 ⟨rfl,hb2⟩;have F2:=F.out.go hb2;have dJ:=F2;obtain⟨YN,YO,YP,Td,-,-⟩:=dJ;have G2:=Hd2 F2 hb2;clear hb2 F2)
   |(refine⟨trivial,?_⟩))
  exact afg
 case true.false=>have HC:=Hd (Ii hna hnb);exact adh
 case false.true=>have HC:=Hd (Eo hna hnb);exact adh
end
end Go.Proofs.YtefnknhjlejalaaGreatDoor
