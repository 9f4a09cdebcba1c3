/- Lemmas and walks; no statement is proved here. -/
import Derived.Test.YtlcgbfkdnmdigaaGreatDoorRows
import Derived.JoinedOf
import Derived.Test.YtlcgbfkdnmdigaaGreatDoorM45
set_option linter.unusedVariables false
set_option linter.unusedSimpArgs false
set_option maxRecDepth 20000
set_option maxHeartbeats 6000000
namespace Go.Proofs.YtlcgbfkdnmdigaaGreatDoor
open Go.Proofs.Tryz
theorem ad7{p:Prop}(h:p:=by
 refine Cl 11 X ?_;clear X;rintro e wq ⟨u,rfl,zq,hbq⟩;obtain⟨pc2,qc2,Ac2,nc2,cc2,Bc2,mc2,dc2,rfl,qc⟩:=QC.of zq;obtain⟨V,hV,F4⟩:=dR ((F.out.go hbq).a wq.heap.size [.bool pc2,.slice Ac2 nc2 cc2,.bool qc2,.slice Bc2 mc2 dc2] 42);have hb4:Below wq.heap.size wq V:=by rw[<-hV];exact bel
 have hby:=hbq.trans (hb4.mono hbq.size);have QY:=Hd (qc.go hb4);clear o1;replace F:=Hd F4;have o1:=aW F.out;clear F4 zq qc hbq hb4;replace QX:=Hd (QX.out.go hby);clear hby;have i1:=(F.out.bl.cell (p:=⟨b1,_,none⟩) hb1).trans z1;gi_wp2;have X:=uP (w:=V) (n:=z.2.1) (d:=1) (b_.nil V) HC.out.zi.1 (by unfold i64;omega) (by omega);refine Cl 21 X ?_;clear X;rintro e wq ⟨u,rfl,zq,hbq⟩;obtain⟨pc3,qc3,Ac3,nc3,cc3,Bc3,mc3,dc3,rfl,qc⟩:=QC.of zq;obtain⟨V,hV,F4⟩:=dR ((F.out.go hbq).a wq.heap.size [.bool pc3,.slice Ac3 nc3 cc3,.bool qc3,.slice Bc3 mc3 dc3] 42);have hb4:Below wq.heap.size wq V:=by rw[<-hV];exact bel
 have hby:=hbq.trans (hb4.mono hbq.size);have QZ:=Hd (qc.go hb4);clear o1;replace F:=Hd F4;have o1:=aW F.out;clear F4 zq qc hbq hb4;replace QX:=Hd (QX.out.go hby);replace QY:=Hd (QY.out.go hby);clear hby i1;gi_wp2;have X:=MZ (b_.nil V) QX.out.qw QZ.out.qw HQ.out.2.1 HC.out.ok.2 HQ.out.2.2.1;rw[HQ.out.1]at X;unfold QR at X;refine Cl 22 X ?_;clear X;rintro e wq ⟨u,rfl,zq,hbq⟩;obtain⟨pc4,qc4,Ac4,nc4,cc4,Bc4,mc4,dc4,rfl,qc⟩:=QC.of zq;obtain⟨V,hV,F4⟩:=dR ((F.out.go hbq).a wq.heap.size [.bool pc4,.slice Ac4 nc4 cc4,.bool qc4,.slice Bc4 mc4 dc4] 42);have hb4:Below wq.heap.size wq V:=by rw[<-hV];exact bel
 have hby:=hbq.trans (hb4.mono hbq.size);have QV:=Hd (qc.go hb4);clear o1;replace F:=Hd F4;have o1:=aW F.out;clear F4 zq qc hbq hb4;replace QY:=Hd (QY.out.go hby);clear hby;gi_wp2;have XS:=zK QV.out.qw.rv QY.out.qw.rv;rw[decide_eq_true rfl]at XS;refine Cl 14 XS ?_;clear XS;rintro e wf ⟨rfl,hbf⟩;replace F:=Hd (F.out.go hbf);clear hbf;gi_wp2;go_ret;exact⟨rfl,F.out.bl⟩):p:=h
theorem agy{p:Prop}(h:p:=by have h1:r.rounds.length=s5.n:=H.out.1.rounds.len;have h2:=H.out.2.2.2.1.fw.2;omega):p:=h
theorem agB{p:Prop}(h:p:=by have:=F8.mJ 1;intro c vs hm;simp at hm;have:=hb7.size;have:=FE.out.mJ 1;omega):p:=h
variable {a:Int}{nm cn rn:List ByteArray}{s:ByteArray}{w':World}
section
open Go.RowKit
theorem AQ{w W:World}{L:List (Nat×List Value)}{q:World->Prop}(h:Fr w W L)(e:∀V,At V L=q V:=by(intro V;simp only[List.nil_append,List.cons_append,At,Ce,Nat.zero_add,Nat.reduceAdd,and_true];exact rfl)):∀V,Keeps [] W V->q V:=fun V k=>e V▸Zx L fun b vs hm i u hu=>by have h1:=h.at_ b vs hm i u hu;have h2:=k.block b (h.lt b vs hm) (by simp);exact afs
open Go.Shelf
attribute [local go_sem] Oper.semAt_some
end
section
open Go.RowKit
structure VbR(α:Type) [kJ α] (e:TypeId)(M:List Nat)(w u:World)(L:List (Nat×List Value))(bl j:Nat)(C:Value->List Value)(v:Value)(xs:List α)(wr:World):Prop where
 own:bD α e wr (bl::M) u.heap.size v xs.length xs
 fr:Fr w wr (L++ [(bl,C v)])
 sz:u.heap.size<=wr.heap.size
 wu:w.heap.size<=u.heap.size
 bM:b_ M w
 hL:∀b vs,(b,vs)∈L->b<u.heap.size/\b≠bl
 hb:bl<u.heap.size
 hC:∀v,(C v)[j]?=some v
 hS:∀v v',(C v).set j v'=C v'
 kp:Keeps [bl] u wr
section
variable {α:Type} [kJ α] {e:TypeId}{M:List Nat}{w u wr wz:World}{L:List (Nat×List Value)}{bl j:Nat}{C:Value→List Value}{v:Value}{xs:List α}
theorem VbR.go(h:VbR α e M w u L bl j C v xs wr)(hb:Below wr.heap.size wr wz):VbR α e M w u L bl j C v xs wz:=⟨h.own.go hb,h.fr.go hb,Nat.le_trans h.sz hb.size,h.wu,h.bM,h.hL,h.hb,h.hC,h.hS,h.kp.trans (Keeps.of_below hb _)⟩
theorem VbR.nil(h:Fr w u (L++ [(bl,C (.slice none 0 0))]))(hL:∀b vs,(b,vs)∈L->b≠bl)(hM:b_ M w)(hC:∀v,(C v)[j]?=some v)(hS:∀v v',(C v).set j v'=C v'):VbR α e M w u L bl j C (.slice none 0 0) [] u:=⟨bD.nil _ _ _,h,Nat.le_refl _,h.bl.size,hM,fun b vs hm=>⟨h.lt b vs (by simp[hm]),hL b vs hm⟩,h.lt bl (C (.slice none 0 0)) (by simp),hC,hS,Keeps.refl _ _⟩
theorem VbR.bel(h:VbR α e M w u L bl j C v xs wr):b_ (bP v++bl::M) wr:=fun q hq=>by exact afk
theorem VbR.ge(h:VbR α e M w u L bl j C v xs wr):∀q,q∈bP v++ [bl]->w.heap.size<=q:=fun q hq=>by
 rcases List.mem_append.1 hq with hq|hq;·have:=(h.own.lt (bJ.1 hq)).1;exact Nat.le_trans h.wu this
 rw[List.mem_singleton]at hq;subst hq;exact h.fr.ge _ (C v) (by simp)
theorem VbR.no(h:VbR α e M w u L bl j C v xs wr):∀q,q<u.heap.size->q∉bP v:=fun q hq hm=>by have:=(h.own.lt (bJ.1 hm)).1;omega
theorem VbR.sl(h:VbR α e M w u L bl j C v xs wr)(hn:xs.length<=1000):∃A c,v=.slice A xs.length c/\Sl α wr (bl::M) A xs.length c xs:=h.own.sl (by omega) (fun k hk=>by exact afu)
end
open Go.Shelf
attribute [local go_sem] Oper.semAt_some
theorem EJ:iU 3 (Rep.sz Int):=iU.mk' qo rfl (by omega)
theorem tmod_lt(h0:0<=a){n:Nat}(hn:0<n):∃k:Nat,k<n/\a.tmod (n:Int)=(k:Int):=by have h1:0<=a.tmod (n:Int):=Int.tmod_nonneg _ h0;have h2:a.tmod (n:Int)<(n:Int):=Int.tmod_lt_of_pos _ (by omega);exact⟨(a.tmod (n:Int)).toNat,by omega,by omega⟩
theorem aad{e:TypeId}{w:World}{M:List Nat}{base g n cap:Nat}{xs:List Int}(h:bD Int e w M base (.slice (some ⟨g,0,none⟩) n cap) n xs){k:Nat}(hk:k<n):
 w.cell? ⟨g,k,none⟩=some (.int .i64 (xs.getD k 0))/\w.frozen? ⟨g,k,none⟩=false/\i64 (xs.getD k 0):=by
 have hl:=h.len;have hg:xs.getD k 0=xs[k]'(by omega):=by simp[List.getD_eq_getElem?_getD,show k<xs.length by omega]
 obtain⟨es,⟨rfl,hi⟩,b⟩:=h.get (List.getElem?_eq_getElem (show k<xs.length by omega));have:=b 0 _ rfl;rw[hg];exact⟨by simpa[Rep.sz]using this.1,by simpa[Rep.sz]using this.2,hi⟩
theorem A_{e:TypeId}{w:World}{M:List Nat}{base g n cap:Nat}{xs:List Int}(h:bD Int e w M base (.slice (some ⟨g,0,none⟩) n cap) n xs){k:Nat}(hk:k<n){x:Int}(hx:i64 x):bD Int e (w.setCell ⟨g,k,none⟩ (.int .i64 x)) M base (.slice (some ⟨g,0,none⟩) n cap) n (xs.set k x):=(h.abL hk ⟨rfl,hx⟩ (by show w.setCell ⟨g,k*1,none⟩ _=_;rw[Nat.mul_one])).1
end
theorem EM{s:ByteArray}:∀{nm:List ByteArray},s∈nm->0<=dO nm s
 |y::l,h=>by
  unfold dO;by_cases e:y=s;·rw[if_pos e];omega
  rw[if_neg e];rcases List.mem_cons.1 h with h|h;·exact absurd h.symm e
  have:=EM h;rw[if_neg (by omega)];omega
theorem EN{k:Nat}(ho:dX nm nm.length=true)(h:nm[k]?=some s):dO nm s=(k:Int):=by obtain⟨j,hj⟩:∃j:Nat,dO nm s=(j:Int):=⟨(dO nm s).toNat,by have:=EM (List.mem_of_getElem? h);omega⟩;have h1:=Qa ho (List.getElem?_eq_some_iff.1 (I8 hj)).1 (Nat.le_refl _) (I8 hj);have h2:=Qa ho (List.getElem?_eq_some_iff.1 h).1 (Nat.le_refl _) h;rw[h1]at h2;cases h2;exact hj
theorem AA{nm:List ByteArray}(ho:dX nm nm.length=true):∀k,k<=nm.length->vN nm k=false
 |0,_=>rfl
 |k+1,h=>by unfold vN;have hk:nm[k]?=some (nm[k]'(by omega)):=List.getElem?_eq_getElem (by omega);rw[AA ho k (by omega),Bool.false_or,List.getD_eq_getElem?_getD,hk];exact decide_eq_false fun e=>e (EN ho hk)
theorem last_at{nm:List ByteArray}{s:ByteArray}:∀{k j:Nat},k<=nm.length->gW nm s k=some j->nm[j]?=some s
 |k+1,j,hk,h=>by
  unfold gW at h;split at h;·rename_i e;cases h;have hj:nm[k]?=some (nm[k]'(by omega)):=List.getElem?_eq_getElem (by omega);rw[List.getD_eq_getElem?_getD,hj]at e;rw[hj];congr 1;exact ByteArray.ext (Array.toList_inj.1 e)
  exact last_at (by omega) h
theorem wP{n:Int}(ho:dX nm nm.length=true)(h:lU nm s n):dO nm s=n/\0<=n:=by
 obtain⟨h1,h2⟩:=h;unfold xB at h1;unfold xA at h2
 cases e:gW nm s nm.length with
 |none=>rw[e]at h1;cases h1
 |some j=>rw[e]at h2;have:=EN ho (last_at (Nat.le_refl _) e);simp at h2;omega
theorem aay(hc:dX cn cn.length=true)(hr:dX rn rn.length=true)(x:aU):iV cn rn x=false->lC cn rn x=x->okR cn rn x=true/\fH cn rn x=x:=by
 induction x using iY with
 |_ x ih=>
  intro h1 h2;rw[xG,Bool.or_eq_false_iff,nP,List.any_eq_false]at h1;obtain⟨k,s,n,d,l⟩:=x;rw[lC,xH,aU.mk.injEq]at h2;obtain⟨-,-,hn,-,hl⟩:=h2;have h3:∀y,y∈l->¬iV cn rn y=true:=h1.2;replace h1:sO cn rn k s=false:=h1.1;replace ih:∀y,y∈l->iV cn rn y=false->lC cn rn y=y->okR cn rn y=true/\fH cn rn y=y:=ih;have hch:=fun y hy=>ih y hy (by simpa using h3 y hy) (Qj hl y hy);rw[okR,fH,mg,Qk (fun y hy=>(hch y hy).2),qC,List.all_eq_true.2 (fun y hy=>(hch y hy).1),Bool.and_true];unfold sO at h1;unfold qW at hn;by_cases k2:k=2;·rw[if_pos k2]at h1 hn;have:=wP hc ⟨h1,hn⟩;rw[if_pos k2,if_pos k2,this.1];exact⟨decide_eq_true this.2,rfl⟩
  ·rw[if_neg k2]at h1 hn;rw[if_neg k2,if_neg k2];by_cases k5:k=5;·rw[if_pos k5]at h1 hn;have:=wP hr ⟨h1,hn⟩;rw[if_pos k5,if_pos k5,this.1];exact⟨decide_eq_true this.2,rfl⟩
   rw[if_neg k5,if_neg k5];exact⟨rfl,rfl⟩
theorem aaz{tn:List ByteArray}{k:bK}(hc:dX cn cn.length=true)(hr:dX rn rn.length=true)(ht:dX tn tn.length=true)(h:(k.1=1->lU cn k.2.1 k.2.2)/\(k.1=2->lU rn k.2.1 k.2.2)/\(k.1=5->lU tn k.2.1 k.2.2)):
 I_ cn rn tn k=true/\iW cn rn tn k=k:=by
 obtain⟨kd,nm,n⟩:=k;obtain⟨h1,h2,h5⟩:=h;simp only at h1 h2 h5;unfold I_ iW;simp only;by_cases e1:kd=1;·have:=wP hc (h1 e1);rw[if_pos e1,if_pos e1,this.1];exact⟨decide_eq_true this.2,rfl⟩
 ·rw[if_neg e1,if_neg e1];by_cases e2:kd=2;·have:=wP hr (h2 e2);rw[if_pos e2,if_pos e2,this.1];exact⟨decide_eq_true this.2,rfl⟩
  rw[if_neg e2,if_neg e2];by_cases e5:kd=5;·have:=wP ht (h5 e5);rw[if_pos e5,if_pos e5,this.1];exact⟨decide_eq_true this.2,rfl⟩
  rw[if_neg e5,if_neg e5];exact⟨rfl,rfl⟩
theorem aae{r:aS}(h:ZH r):xY r=0:=by
 have o1:dX (dP r) (dP r).length=true:=by have:=h.o1;rwa [List.length_map]
 have o2:dX (UG r) (UG r).length=true:=by have:=h.o2;rwa [List.length_map,List.length_append]
 have o3:dX (jF r) (jF r).length=true:=by have:=h.o3;rwa [List.length_map]
 have o4:dX (dQ r) (dQ r).length=true:=by have:=h.o4;rwa [List.length_map]
 have hr:=fun y hy=>h.rounds y hy;have e1:uZ r 4=true:=by show(bZ r.name&&(dP r).all bZ&&(UG r).all bZ&&(jF r).all bZ&&(dQ r).all bZ)=true;have a1:=h.a1;have a2:=h.a2;have a3:=h.a3;have a4:=h.a4;simp only[dP,UG,jF,dQ,List.all_map,Function.comp_def,h.name,Bool.true_and];rw[a1,a2,a3,a4];rfl
 have e2:Fb r 4=false:=by show(false||vN (dP r) (dP r).length||vN (UG r) (UG r).length||vN (jF r) (jF r).length||vN (dQ r) (dQ r).length)=false;rw[AA o1 _ (Nat.le_refl _),AA o2 _ (Nat.le_refl _),AA o3 _ (Nat.le_refl _),AA o4 _ (Nat.le_refl _)];rfl
 have kk:∀t,t∈r.ties->∀k,k∈t.2->I_ (dP r) (dQ r) (jF r) k=true/\iW (dP r) (dQ r) (jF r) k=k:=fun t ht k hk=>aaz o1 o4 o3 (h.keys t ht k hk).2;have rr:∀y,y∈r.rounds->Va r y=true/\KE r y=true:=fun y hy=>by
  obtain⟨-,p1,p2,-,p3⟩:=hr y hy;obtain⟨q1,q2⟩:=aay o1 o4 _ p1 p2;unfold Va KE;rw[q1,q2,Bool.true_and,(GZ _ _).2 rfl,Bool.and_true];rcases p3 with⟨e,e2⟩|⟨e,e2⟩;·refine⟨by simp[e],decide_eq_true ?_⟩;show(if(qX y).toList= []then-1 else dO (jF r) (qX y))=XE y;rw[if_pos e,e2]
  have:=wP o3 e2;refine⟨by rw[this.1];simp[this.2],decide_eq_true ?_⟩;show(if(qX y).toList= []then-1 else dO (jF r) (qX y))=XE y;rw[if_neg e,this.1]
 have e3:Yc r=true:=by unfold Yc okT;rw[Bool.and_eq_true,List.all_eq_true,List.all_eq_true];exact⟨fun t ht=>List.all_eq_true.2 fun k hk=>(kk t ht k hk).1,fun y hy=>(rr y hy).1⟩
 have e4:xX r=true:=by unfold xX;rw[Bool.and_eq_true,List.all_eq_true,List.all_eq_true];exact⟨fun t ht=>List.all_eq_true.2 fun k hk=>decide_eq_true (kk t ht k hk).2,fun y hy=>(rr y hy).2⟩
 unfold xY jJ;rw[h.small,e1,e2,e3,e4];rfl
def AL(x:aJ)(y:aU):aJ:=(x.1,x.2.1,x.2.2.1,x.2.2.2.1,false,x.2.2.2.2.2.1,y,x.2.2.2.2.2.2.2.1,x.2.2.2.2.2.2.2.2)
def Az(r:aS)(i:Nat)(x:aJ)(y:aU):aS:={ r with rounds:=r.rounds.set i (AL x y) }
def wO(k:Int):aU:=.mk k ⟨#[]⟩ 0 0 []
theorem EO(n:Int):eP n 1=⟨n,1⟩:=by rw[BH (by omega)];simp
section
variable {r:aS}{i:Nat}{x:aJ}{y:aU}{k:Int}
theorem AY{z:aJ}(h:z∈(Az r i x y).rounds):z∈r.rounds\/z=AL x y:=List.mem_or_eq_of_mem_set h
theorem acK(hx:r.rounds[i]?=some x):dQ (Az r i x y)=dQ r:=by
 show(r.rounds.set i (AL x y)).map _=r.rounds.map _;apply List.ext_getElem?;intro j;rw[List.getElem?_map,List.getElem?_map,List.getElem?_set];by_cases e:i=j;·subst e;rw[if_pos rfl,if_pos (List.getElem?_eq_some_iff.1 hx).1,hx];rfl
 rw[if_neg e]
theorem acL{j:Nat}{z:aJ}(h:(Az r i x y).rounds[j]?=some z):r.rounds[j]?=some z\/j=i/\z=AL x y:=by
 have h':(r.rounds.set i (AL x y))[j]?=some z:=h;rw[List.getElem?_set]at h';by_cases e:i=j
 ·rw[if_pos e]at h';split at h';·cases h';exact .inr ⟨e.symm,rfl⟩
  cases h'
 rw[if_neg e]at h';exact .inl h'
theorem EK(hx:r.rounds[i]?=some x):(Az r i x y).rounds[i]?=some (AL x y):=List.getElem?_set_self (List.getElem?_eq_some_iff.1 hx).1
theorem aaf{z:aU}(h:z∈iZ (wO k)):z=wO k:=by rw[lW]at h;simpa[wO,aU.l,Ah]using h
theorem abx(h:ZH r)(hx:r.rounds[i]?=some x)(hk:k=3\/k=4):ZH (Az r i x (wO k)):=by
 have hm:=List.mem_of_getElem? hx;have hlen:(Az r i x (wO k)).rounds.length=r.rounds.length:=List.length_set;have hn:nodes (wO k)=1:=by rw[wO,nodes,dh]
 have hd:iM (wO k)=1:=by rw[wO,iM,fO]
 have hrn:=acK (y:=wO k) hx;have hall:∀{p:aJ->Bool},r.rounds.all p=true->p (AL x (wO k))=true->(Az r i x (wO k)).rounds.all p=true:=fun h1 h2=>by
  rw[List.all_eq_true]at h1 |-;intro z hz;rcases AY hz with e|e;·exact h1 z e
  rw[e];exact h2
 refine⟨?_,fun z hz=>?_,by rw[hlen];exact h.len,h.NT,h.z1,h.z2,h.z3,fun z hz=>?_,h.a1,h.a2,h.a3,hall h.a4 (List.all_eq_true.1 h.a4 x hm),h.o1,h.o2,h.o3,by rw[hrn,hlen];exact h.o4,h.name,fun t ht q hq=>?_,fun z hz=>?_⟩;·have hs:=h.small;unfold fD sJ at hs |-;rw[hlen];rw[Bool.and_eq_true,Bool.and_eq_true]at hs |-;exact⟨hs.1,hall hs.2 (decide_eq_true ⟨by show nodes (wO k)<=256;omega,by show iM (wO k)<=16;omega⟩)⟩
 ·rcases AY hz with e|e;·exact h.parts z e
  rw[e];show nodes (wO k)<=1000;omega
 ·rcases AY hz with e|e;·exact h.z4 z e
  rw[e];exact h.z4 x hm
 ·have:=h.keys t ht q hq;unfold ZG at this |-;rw[hrn];exact this
 have key:∀z,PS r z->PS (Az r i x (wO k)) z:=fun z hz=>by unfold PS at hz |-;rw[hrn];exact hz
 rcases AY hz with e|e;·exact key z (h.rounds z e)
 rw[e];refine key _ ?_;obtain⟨-,-,-,p4,p5⟩:=h.rounds x hm;have k2:¬k=2:=by omega
 have k5:¬k=5:=by omega
 refine⟨?_,?_,?_,p4,p5⟩;·show Ut (wO k);rw[wO,Ut];exact⟨Nat.zero_le _,by rw[XU];trivial⟩
 ·show iV _ _ (wO k)=false;rw[wO,iV,Gv];unfold sO;rw[if_neg k2,if_neg k5];rfl
 show lC _ _ (wO k)=wO k;rw[wO,lC,E5];unfold qW;rw[if_neg k2,if_neg k5]
theorem aby(hk:k=3\/k=4):pX (wO k):=by refine⟨false,false,?_,fun _=>(by show(⟨#[]⟩:ByteArray).toList= [];rw[Lib.toList_data]),fun h=>(by cases h),fun _=>⟨rfl,fun _=>rfl⟩⟩;rcases hk with rfl|rfl<;>simp[wO,aU.kind,aU.l,vT,qZ]
theorem aas(h:Sound r)(hx:r.rounds[i]?=some x)(hk:k=3\/k=4):Sound (Az r i x (wO k)):=by
 have hm:=List.mem_of_getElem? hx;obtain⟨h1,h2,⟨rk,h3⟩,h4⟩:=h;refine⟨abx h1 hx hk,⟨h2.c0,?_,h2.aT,h2.bonus,h2.malus,h2.prizes,h2.points,h2.best,h2.bp,h2.ties,fun z hz=>?_⟩,⟨rk,⟨h3.few,h3.keys,h3.ref,h3.top,h3.len⟩⟩,fun j z hz=>?_⟩;·intro e;have:(Az r i x (wO k)).rounds.length=r.rounds.length:=List.length_set;rw[e]at this;exact h2.r0 (List.length_eq_zero_iff.1 this.symm)
 ·rcases AY hz with e|e;·exact h2.rounds z e
  rw[e];obtain⟨q1,q2,q3,q4,-⟩:=h2.rounds x hm;exact⟨q1,q2,q3,q4,fun e=>(by cases e),fun _ y hy=>by rw[aaf hy];exact aby hk⟩
 rcases acL hz with e|⟨rfl,rfl⟩;·exact h4 j z e
 refine⟨fun y hy e=>?_,(h4 j x hx).2⟩;rw[aaf hy]at e;have e':k=5:=e;omega
theorem aag{c:dS}(h:f_ r i c)(hx:r.rounds[i]?=some x)(hk:k=3\/k=4):f_ (Az r i x (wO k)) i c:=by
 obtain⟨x',hx',hc⟩:=Zi h;obtain rfl:x=x':=by rw[hx]at hx';cases hx';rfl
 exact⟨aas h.1 hx hk,i,_,rfl,EK hx,hc⟩
theorem aat{c:dS}(h:yI r c)(hx:r.rounds[i]?=some x):yI (Az r i x (wO k)) c:=by
 have hn:nodes (wO k)=1:=by rw[wO,nodes,dh]
 have hlen:(Az r i x (wO k)).rounds.length=r.rounds.length:=List.length_set;have hp:∀(b:Nat),1<=b->(∀z,z∈r.rounds->nodes (au z)<=b)->∀z,z∈(Az r i x (wO k)).rounds->nodes (au z)<=b:=fun b hb h z hz=>by
  rcases AY hz with e|e;·exact h z e
  rw[e];show nodes (wO k)<=b;omega
 exact⟨⟨⟨⟨hp _ (by omega) h.fw.1.fw.parts,by rw[hlen];exact h.fw.1.fw.len,h.fw.1.fw.NT⟩,h.fw.1.ties,h.fw.1.keys⟩,by rw[hlen];exact h.fw.2⟩,hp _ (by omega) h.parts,h.lens,h.mark,h.prev⟩
theorem Bl:∀{xs:List bW}{l:List Int}{j:Nat}{z:bW}{m:Int},xs[j]?=some z->l[j]?=some m->Ey xs (l.set j (m+1))=Ey xs l+z.2.1
 |x::xs,a::l,0,z,m,hx,hl=>by simp at hx hl;subst hx;subst hl;unfold Ey;simp only[List.set_cons_zero,List.zip_cons_cons,List.map_cons,List.sum_cons];rw[Int.add_mul];omega
 |x::xs,a::l,j+1,z,m,hx,hl=>by have:=Bl (xs:=xs) (l:=l) (j:=j) (z:=z) (m:=m) (by simpa using hx) (by simpa using hl);unfold Ey at this |-;simp only[List.set_cons_succ,List.zip_cons_cons,List.map_cons,List.sum_cons];omega
theorem add_one(a b:Int):Js (eP a 1) (eP b 1)=eP (a+b) 1:=by rw[EO a,EO b];unfold Js;simp
theorem Ba{xs:List bW}{l:List Int}{j:Nat}{z:bW}{m:Int}(hx:xs[j]?=some z)(hl:l[j]?=some m)(hm:m<z.2.2)(h:dV xs l=true):dV xs (l.set j (m+1))=true:=by
 unfold dV at h |-;rw[Bool.and_eq_true,decide_eq_true_eq]at h |-;rw[List.all_eq_true]at h |-;refine⟨by rw[List.length_set];exact h.1,fun p hp=>?_⟩;obtain⟨n,hn⟩:=List.mem_iff_getElem?.1 hp;obtain⟨q1,q2⟩:=p;rw[List.getElem?_zip_eq_some]at hn;obtain⟨a1,a2⟩:=hn;have a2':(l.set j (m+1))[n]?=some q2:=a2;rw[List.getElem?_set]at a2';by_cases e:j=n;·subst e;rw[if_pos rfl,if_pos (List.getElem?_eq_some_iff.1 hl).1]at a2';rw[hx]at a1;cases a1;cases a2';have:=h.2 (_,m) (List.mem_of_getElem? (List.getElem?_zip_eq_some.2 ⟨hx,hl⟩));replace this:countB q1 m=true:=this;replace hm:m<q1.2.2:=hm;show countB q1 (m+1)=true;unfold countB at this |-;simp only[Bool.and_eq_true,decide_eq_true_eq]at this |-;omega
 rw[if_neg e]at a2';exact h.2 _ (List.mem_of_getElem? (List.getElem?_zip_eq_some.2 ⟨a1,a2'⟩))
end
section
open Go.RowKit Go.Shelf
attribute [local go_sem] Oper.semAt_some
theorem aau{w:World}{M:List Nat}{x:aJ}{cs:List Value}(hi:i64 x.2.1/\i64 x.2.2.1/\i64 x.2.2.2.1/\i64 x.2.2.2.2.2.2.2.2)(hs:kH w M (au x) cs):
 Rep.rd w M x ([.string x.1,.int .i64 x.2.1,.int .i64 x.2.2.1,.int .i64 x.2.2.2.1,.bool x.2.2.2.2.1,.bool x.2.2.2.2.2.1]++cs++ [.string x.2.2.2.2.2.2.2.1,.int .i64 x.2.2.2.2.2.2.2.2]):=
 ⟨[.string x.1],_,rfl,rfl, [.int .i64 x.2.1],_,rfl,⟨rfl,hi.1⟩, [.int .i64 x.2.2.1],_,rfl,⟨rfl,hi.2.1⟩, [.int .i64 x.2.2.2.1],_,rfl,⟨rfl,hi.2.2.1⟩, [.bool x.2.2.2.2.1],_,rfl,rfl, [.bool x.2.2.2.2.2.1],_,rfl,rfl,cs, [.string x.2.2.2.2.2.2.2.1,.int .i64 x.2.2.2.2.2.2.2.2],rfl,hs, [.string x.2.2.2.2.2.2.2.1],_,rfl,rfl,⟨rfl,hi.2.2.2⟩⟩
def aaA(x:aJ)(y:aU):aJ:=(x.1,x.2.1,x.2.2.1,x.2.2.2.1,x.2.2.2.2.1,x.2.2.2.2.2.1,y,x.2.2.2.2.2.2.2.1,x.2.2.2.2.2.2.2.2)
theorem abz{w:World}{M:List Nat}{k:Int}(hk:i64 k):kH w M (wO k) [.int .i64 k,.string ⟨#[]⟩,.int .i64 0,.int .i64 0,.slice none 0 0]:=kH.of ⟨hk,by unfold i64;omega,by unfold i64;omega⟩ Sl.nil0
section
variable {M:List Nat}{w:World}{base g n cap:Nat}{xs:List aJ}{x:aJ}{i:Nat}{k:Int}
theorem aal(h:bD aJ 50 w M base (.slice (some ⟨g,0,none⟩) n cap) n xs)(hx:xs[i]?=some x)(hk:i64 k)(hw:fM w g (i*13+6) [.int .i64 k,.string ⟨#[]⟩,.int .i64 0,.int .i64 0,.slice none 0 0]=w'):
 bD aJ 50 w' M base (.slice (some ⟨g,0,none⟩) n cap) n (xs.set i (aaA x (wO k))):=(h.aam (j:=6) (x:=aaA x (wO k)) (us:= [.int .i64 k,.string ⟨#[]⟩,.int .i64 0,.int .i64 0,.slice none 0 0]) hx (show 6+5<=13 by omega) (fun es hes=>by
 obtain⟨B,m,d,rfl,hi,-,-⟩:=jg hes;exact aau (x:=aaA x (wO k)) hi (abz hk)) hw).1
theorem Np(h:bD aJ 50 w M base (.slice (some ⟨g,0,none⟩) n cap) n xs)(hx:xs[i]?=some (aaA x (wO k)))(hw:w.setCell ⟨g,i*13+4,none⟩ (.bool false)=w'):
 bD aJ 50 w' M base (.slice (some ⟨g,0,none⟩) n cap) n (xs.set i (AL x (wO k))):=(h.aam (j:=4) (x:=AL x (wO k)) (us:= [.bool false]) hx (show 4+1<=13 by omega) (fun es hes=>by
 obtain⟨B,m,d,rfl,hi,he,hs⟩:=jg hes;exact aau (x:=AL x (wO k)) hi (kH.of he hs)) hw).1
end
section
variable {M:List Nat}{r:aS}{s1 s2 s3 s4 s5 s6 s7:dK}{w:World}{x:aJ}{i:Nat}
theorem EP{k:Int}(hk:i64 k)(hq:s5.n<=1000)(hM:b_ M w)(hr:dG w M r s1 s2 s3 s4 s5 s6 s7)(hx:r.rounds[i]?=some x):
 Calls prog 18 #[.agg (aV r s1 s2 s3 s4 s5 s6 s7).toArray,.int .i64 i,.agg #[.int .i64 k,.string ⟨#[]⟩,.int .i64 0,.int .i64 0,.slice none 0 0]] w fun e w'=>∃t5,e=.returned (.agg (aV (Az r i x (wO k)) s1 s2 s3 s4 t5 s6 s7).toArray)/\dG w' M (Az r i x (wO k)) s1 s2 s3 s4 t5 s6 s7/\Below w.heap.size w w':=by
 refine wid ?_;obtain⟨A5,q5,c5⟩:=s5;have h5:Sl aJ w M A5 q5 c5 r.rounds:=hr.rounds;have hi5:i<q5:=by rw[<-h5.len];exact(List.getElem?_eq_some_iff.1 hx).1
 replace hq:q5<=1000:=hq;obtain⟨W1,hW1,F1⟩:=dR ((((Fr.nil w).a w.heap.size (aV r s1 s2 s3 s4 ⟨A5,q5,c5⟩ s6 s7) 28).a (w.heap.size+1) [.int .i64 k,.string ⟨#[]⟩,.int .i64 0,.int .i64 0,.slice none 0 0] 48).a (w.heap.size+1+1) [.string ⟨#[]⟩,.slice none 0 0,.slice none 0 0,.slice none 0 0,.slice none 0 0,.slice none 0 0,.slice none 0 0,.slice none 0 0,.int .i64 0] 28);obtain⟨vr,wC,rC,oC,hbC⟩:=uz (t:=25) underlying25 sN ((h5.moreL [w.heap.size,w.heap.size+1+1] (by simp;omega)).go F1.bl) (by omega);obtain⟨W2,hW2⟩:=aC (W1.alloc (.cells #[] 50));have F2:=F1.go (show Below W1.heap.size W1 W2 by rw[<-hW2];exact bel);rw[hW2]at rC;have o2:=F2.aQ 0 5;have F3:=F1.go hbC;obtain⟨g,cap,rfl⟩:=qA oC (by omega);obtain⟨W3,hW3⟩:=aC (wC.setCell ⟨w.heap.size,5,none⟩ (.slice (some ⟨g,0,none⟩) q5 cap));have o3:=F3.aQ 0 5;have ZU:=F3.zN 0 5;have F4:Fr w W3 [(w.heap.size+1, [.int .i64 k,.string ⟨#[]⟩,.int .i64 0,.int .i64 0,.slice none 0 0]),(w.heap.size+1+1, [.string ⟨#[]⟩,.slice none 0 0,.slice none 0 0,.slice none 0 0,.slice none 0 0,.slice none 0 0,.slice none 0 0,.slice none 0 0,.int .i64 0]),(w.heap.size,aV r s1 s2 s3 s4 ⟨some ⟨g,0,none⟩,q5,cap⟩ s6 s7)]:=by rw[<-hW3];exact Fr.qY (L:= [(w.heap.size+1, [.int .i64 k,.string ⟨#[]⟩,.int .i64 0,.int .i64 0,.slice none 0 0]),(w.heap.size+1+1, [.string ⟨#[]⟩,.slice none 0 0,.slice none 0 0,.slice none 0 0,.slice none 0 0,.slice none 0 0,.slice none 0 0,.slice none 0 0,.int .i64 0])]) (b:=w.heap.size) (C:=aV r s1 s2 s3 s4 ⟨A5,q5,c5⟩ s6 s7) (F3.only (by simp)) (by intro c vs hm;simp at hm;omega) (j:=5) rfl _
 have hgl:=(oC.lt (k:=g) rfl).1;have hsz:=F1.mJ 2;have O3:bD aJ 50 W3 ([w.heap.size,w.heap.size+1+1]++M) W1.heap.size (.slice (some ⟨g,0,none⟩) q5 cap) q5 r.rounds:=by rw[<-hW3];exact oC.aar ((Keeps.refl [w.heap.size] _).setCell (p:=⟨w.heap.size,5,none⟩) (.inl (by simp)) _) (by simp) (fun q hq=>by cases hq;simp;omega)
 obtain⟨W4,I4⟩:=aC (fM W3 g (i*13+6) [.int .i64 k,.string ⟨#[]⟩,.int .i64 0,.int .i64 0,.slice none 0 0]);have k4:KB g W3 W4:=⟨by rw[<-I4];exact qV (w:=W3) _ _ _,by rw[<-I4];exact lq (Nat.le_refl g) _ _ (Below.refl _ _)⟩;have F5:=F4.kb k4 (by omega) (by intro c vs hm;simp at hm;omega);have O4:=aal O3 hx hk I4;obtain⟨W5,CZ⟩:=aC (W4.setCell ⟨g,i*13+4,none⟩ (.bool false));have k5:KB g W4 W5:=⟨by rw[<-CZ];exact(Keeps.refl _ _).setCell (p:=⟨g,i*13+4,none⟩) (.inl (by simp)) _,by rw[<-CZ];exact(Below.refl _ _).setCell (p:=⟨g,i*13+4,none⟩) (Nat.le_refl g) _⟩;have F6:=F5.kb k5 (by omega) (by intro c vs hm;simp at hm;omega);have O5:=Np O4 (x:=x) (by rw[List.getElem?_set_self (by rw[h5.len];exact hi5)]) CZ;simp only[fM]at I4;obtain⟨W6,X0⟩:=aC (fM W5 (w.heap.size+1+1) 0 (aV r s1 s2 s3 s4 ⟨some ⟨g,0,none⟩,q5,cap⟩ s6 s7));have F7:=(F6.only (L':= [(w.heap.size+1+1, [.string ⟨#[]⟩,.slice none 0 0,.slice none 0 0,.slice none 0 0,.slice none 0 0,.slice none 0 0,.slice none 0 0,.slice none 0 0,.int .i64 0])]) (by simp)).oh (us:=aV r s1 s2 s3 s4 ⟨some ⟨g,0,none⟩,q5,cap⟩ s6 s7) rfl X0;simp only[fM,Nat.zero_add]at X0;have o7:=aW F7.1;have o4:=aW F4.hd;have o4':=F4.aQ 2 5;have o5:=F5.aQ 2 5;have o6:=aW (F6.only (L':= [(w.heap.size+1+1, [.string ⟨#[]⟩,.slice none 0 0,.slice none 0 0,.slice none 0 0,.slice none 0 0,.slice none 0 0,.slice none 0 0,.slice none 0 0,.int .i64 0]),(w.heap.size,aV r s1 s2 s3 s4 ⟨some ⟨g,0,none⟩,q5,cap⟩ s6 s7)]) (by simp));have gq:=fun j (hj:j<13)=>(show ∃u0,W3.cell? ⟨g,i*13+j,none⟩=some u0/\W3.frozen? ⟨g,i*13+j,none⟩=false by obtain⟨es,a,b⟩:=O3.get hx;have hl:=Rep.len a;have:=b j (es[j]'(by rw[hl];exact hj)) (List.getElem?_eq_getElem _);exact⟨_,this.1,this.2⟩);obtain⟨v4,c4,f4⟩:=(show ∃u0,W4.cell? ⟨g,i*13+4,none⟩=some u0/\W4.frozen? ⟨g,i*13+4,none⟩=false by obtain⟨es,a,b⟩:=O4.get (k:=i) (by rw[List.getElem?_set_self (by rw[h5.len];exact hi5)]);have hl:=Rep.len a;have:=b 4 (es[4]'(by rw[hl];show 4<13;omega)) (List.getElem?_eq_getElem _);exact⟨_,this.1,this.2⟩);obtain⟨v6,c6,f6⟩:=gq 6 (by omega);obtain⟨v7,c7,f7⟩:=gq (6+1) (by omega);obtain⟨v8,c8,f8⟩:=gq (6+2) (by omega);obtain⟨v9,c9,f9⟩:=gq (6+3) (by omega);obtain⟨v10,c10,f10⟩:=gq (6+4) (by omega);rw[<-Nat.add_assoc]at c7 f7 c8 f8 c9 f9 c10 f10;have HC:=Hd rC;have HO:=Hd2 oC hbC;have F:=Hd F2;have H:=Hd2 hr hx;have HR:dG W6 M (Az r i x (wO k)) s1 s2 s3 s4 ⟨some ⟨g,0,none⟩,q5,cap⟩ s6 s7:=by have hb:=F7.1.bl;rw[List.set_set]at O5;have O6:=O5.aar F7.2.k (by simp) (fun q hq=>by cases hq;simp;omega);obtain⟨A,c,e,hs⟩:=O6.sl (by omega) (fun q hq=>by have:=F1.bl.size;rcases List.mem_append.1 hq with h|h;(·simp at h;omega);have:=hM q h;omega);cases e;exact⟨hr.aT.go hb,hr.bonus.go hb,hr.malus.go hb,hr.ties.go hb,hs.less (fun k hk=>List.mem_append_right _ hk),hr.prizes.go hb,hr.points.go hb,hr.best⟩
 have HF:=Hd2 HR F7.1.bl;clear HR;clear F1 F2 F3 F4 F5 F6 F7 k4 k5 O3 O4 O5 gq hr hx rC oC hbC;refine ent func18 rfl ntmps18 ?_
 gi_wp2_with (first
  |(gi_at_builtin;refine wpListIn_plain rfl fun K hK'=>?_;refine aI _ _ _ rfl rfl rfl HC.out (hK' _ _ ?_);clear hK' K)
  |fail)
 exact⟨rfl,_,by simp[results,go_sem,o7,Az],_,rfl,HF.out.1,HF.out.2⟩
end
section
variable {r:aS}{s1 s2 s3 s4 s5 s6 s7:dK}{c:dS}{t1 t2 t3 t4:dK}{w:World}
theorem Bo{i:Int}{b:Bool}(hr:dG w [] r s1 s2 s3 s4 s5 s6 s7)(hc:jE w [] c t1 t2 t3 t4)(ht:Tab w)(hn:yI r c->¬f_ r i c):
 CB 6 #[.agg (aV r s1 s2 s3 s4 s5 s6 s7).toArray,.int .i64 i,.agg (dI t1 t2 t3 t4).toArray,.int .u8 a,.bool b] (.bool true) w:=by
 refine wid ?_;obtain⟨W1,hW1,F1⟩:=dR (((Fr.nil w).a w.heap.size (aV r s1 s2 s3 s4 s5 s6 s7) 28).a (w.heap.size+1) (dI t1 t2 t3 t4) 32);have o1:=aW F1;have F:=Hd F1;have H:=fB hr hc ht;have HN:=Hd hn;clear F1 hr hc ht hn;refine ent func6 rfl ntmps6 ?_
 gi_wp2_with (first
  |(have g:=G2.out;clear g;have X:=tY (i:=i) (H.out.1.go F.out.bl) (H.out.2.1.go F.out.bl) (HB.out (by trivial)).fw.1 (b_.nil _);refine Cl 9 X ?_;clear X;rintro e w4 hw;obtain⟨K,rfl,hK,hb2⟩:=hw.of;replace F:=Hd (F.out.go hb2);have hK0:K≠0:=fun e=>HN.out (HB.out (by trivial)) (hK e);have hkb:(K !=0)=true:=bne_iff_ne.2 hK0;clear hb2 hw hK hK0)
  |(have g:=G1.out;clear g;have X:=zH (H.out.1.go F.out.bl) (H.out.2.1.go F.out.bl);refine Cl 8 X ?_;clear X;rintro e w3 hw;obtain⟨b,rfl,hb,hb2⟩:=hw.of;replace F:=Hd (F.out.go hb2);have o3:=aW F.out;have HB:=Hd hb;have G2:=Hd trivial;clear hb hb2 hw;cases b)
  |(refine Cl 7 (EI (tab_below H.out.2.2 F.out.bl)) ?_;rintro e w2 ⟨rfl,hb2⟩;replace F:=Hd (F.out.go hb2);have o2:=aW F.out;have G1:=Hd trivial;clear hb2)
  |(refine⟨trivial,?_⟩))
 all_goals first
  |exact(gK (by assumption)).elim
  |(go_ret;exact⟨rfl,F.out.bl⟩)
end
end
structure acM(r:aS)(i:Nat)(x:aJ)(c d:dS)(k:Int)(z:bW):Prop where
 g0:f_ (Az r i x (wO k)) i c
 f0:yI (Az r i x (wO k)) c
 g1:f_ (Az r i x (wO k)) i d
 f1:yI (Az r i x (wO k)) d
 m1:eY d.marks=0
 hx:(Az r i x (wO k)).rounds[i]?=some (AL x (wO k))
 code:xY (Az r i x (wO k))=0
 val:Js (rG (kW (Az r i x (wO k)) c) (wO k)) (eP z.2.1 1)=rG (kW (Az r i x (wO k)) d) (wO k)
 ok:(rG (kW (Az r i x (wO k)) c) (wO k)).ok/\(eP z.2.1 1).ok
 fine:Fine (rG (kW (Az r i x (wO k)) c) (wO k)) (eP z.2.1 1)
 zi:i64 z.2.1/\z.2.2<=100
theorem aah(I:Fv):rG I (wO 3)=eP I.bonus 1:=by rw[Qy];simp[Uf,wO,aU.kind]
theorem aai(I:Fv):rG I (wO 4)=eP I.malus 1:=by rw[Qy];simp[Uf,wO,aU.kind]
theorem Bj{n:Int}(h:n.natAbs<=1152921504606846975):yx (eP n 1) 2:=wo (by omega) (by omega) (pG h) (pG (by omega))
section
variable {r:aS}{c:dS}{x:aJ}{i j:Nat}{z:bW}{m:Int}
theorem acN(hg:f_ r i c)(hf:yI r c)(hx:r.rounds[i]?=some x)(hm:eY c.marks=0)(hz:r.bonus[j]?=some z)(hl:c.bonus[j]?=some m)(hlt:m<z.2.2):acM r i x c { c with bonus:=c.bonus.set j (m+1) } 3 z:=by
 obtain⟨p1,p2,p3,p4,p5⟩:=wK hg;have g0:=aag (k:=3) hg hx (.inl rfl);have f0:=aat (k:=3) hf hx;have hc':=Ba hz hl hlt p2;have hi:=hg.1.2.1.bonus z (List.mem_of_getElem? hz);have hI:=Nl hg hf hm;have hs1:=Bj (n:=Ey r.bonus c.bonus) hI.bonus;have hs2:=Bj (n:=z.2.1) (by have:=hi.1;have:=hi.2.1;omega);refine⟨g0,f0,?_,⟨f0.fw,f0.parts,⟨f0.lens.1,by simpa using f0.lens.2.1,f0.lens.2.2⟩,f0.mark,f0.prev⟩,hm,EK hx,aae g0.1.1,?_,?_,?_,⟨by unfold i64;have:=hi.1;have:=hi.2.1;omega,hi.2.2.2⟩⟩;·obtain⟨s,k',x',e,hx',hc⟩:=g0;refine⟨s,k',x',e,hx',?_⟩;unfold kS at hc |-;simp only[Bool.and_eq_true]at hc |-;exact⟨⟨⟨⟨⟨hc.1.1.1.1.1,hc'⟩,hc.1.1.1.2⟩,hc.1.1.2⟩,hc.1.2⟩,hc.2⟩
 ·rw[aah,aah];show Js (eP (Ey r.bonus c.bonus) 1) _=eP (Ey r.bonus (c.bonus.set j (m+1))) 1;rw[add_one,Bl hz hl]
 ·rw[aah];exact⟨hs1.ok,hs2.ok⟩
 rw[aah];exact(hs1.sh (by omega)).fine (hs2.sh (by omega))
theorem acO(hg:f_ r i c)(hf:yI r c)(hx:r.rounds[i]?=some x)(hm:eY c.marks=0)(hz:r.malus[j]?=some z)(hl:c.malus[j]?=some m)(hlt:m<z.2.2):acM r i x c { c with malus:=c.malus.set j (m+1) } 4 z:=by
 obtain⟨p1,p2,p3,p4,p5⟩:=wK hg;have g0:=aag (k:=4) hg hx (.inr rfl);have f0:=aat (k:=4) hf hx;have hc':=Ba hz hl hlt p3;have hi:=hg.1.2.1.malus z (List.mem_of_getElem? hz);have hI:=Nl hg hf hm;have hs1:=Bj (n:=Ey r.malus c.malus) hI.malus;have hs2:=Bj (n:=z.2.1) (by have:=hi.1;have:=hi.2.1;omega);refine⟨g0,f0,?_,⟨f0.fw,f0.parts,⟨f0.lens.1,f0.lens.2.1,by simpa using f0.lens.2.2.1,f0.lens.2.2.2⟩,f0.mark,f0.prev⟩,hm,EK hx,aae g0.1.1,?_,?_,?_,⟨by unfold i64;have:=hi.1;have:=hi.2.1;omega,hi.2.2.2⟩⟩;·obtain⟨s,k',x',e,hx',hc⟩:=g0;refine⟨s,k',x',e,hx',?_⟩;unfold kS at hc |-;simp only[Bool.and_eq_true]at hc |-;exact⟨⟨⟨⟨⟨hc.1.1.1.1.1,hc.1.1.1.1.2⟩,hc'⟩,hc.1.1.2⟩,hc.1.2⟩,hc.2⟩
 ·rw[aai,aai];show Js (eP (Ey r.malus c.malus) 1) _=eP (Ey r.malus (c.malus.set j (m+1))) 1;rw[add_one,Bl hz hl]
 ·rw[aai];exact⟨hs1.ok,hs2.ok⟩
 rw[aai];exact(hs1.sh (by omega)).fine (hs2.sh (by omega))
end
section
open Go.RowKit Go.Shelf
attribute [local go_sem] Oper.semAt_some
abbrev z9:List Value:= [.string ⟨#[]⟩,.slice none 0 0,.slice none 0 0,.slice none 0 0,.slice none 0 0,.slice none 0 0,.slice none 0 0,.slice none 0 0,.int .i64 0]
theorem Fr.jn{w W:World}{L L':List (Nat×List Value)}(h:Fr w W L)(g:Fr w W L'):Fr w W (L++L'):=⟨h.bl,fun b vs hm=>(List.mem_append.1 hm).elim (h.at_ b vs) (g.at_ b vs),fun b vs hm=>(List.mem_append.1 hm).elim (h.lt b vs) (g.lt b vs),fun b vs hm=>(List.mem_append.1 hm).elim (h.ge b vs) (g.ge b vs)⟩
theorem jE.more{w:World}{M:List Nat}{c:dS}{s1 s2 s3 s4:dK}(h:jE w M c s1 s2 s3 s4){b:Nat}(hb:w.heap.size<=b):jE w (b::M) c s1 s2 s3 s4:=⟨h.marks.more hb,h.bonus.more hb,h.malus.more hb,h.prev.more hb⟩
theorem jE.keep{w w':World}{M:List Nat}{c:dS}{s1 s2 s3 s4:dK}(h:jE w M c s1 s2 s3 s4)(k:Keeps M w w'):jE w' M c s1 s2 s3 s4:=⟨h.marks.keep k,h.bonus.keep k,h.malus.keep k,h.prev.keep k⟩
theorem jE.less{w:World}{M M':List Nat}{c:dS}{s1 s2 s3 s4:dK}(h:jE w M c s1 s2 s3 s4)(k:∀q,q∈M'->q∈M):jE w M' c s1 s2 s3 s4:=⟨h.marks.less k,h.bonus.less k,h.malus.less k,h.prev.less k⟩
section
variable {r:aS}{s1 s2 s3 s4 s5 s6 s7:dK}{c:dS}{t1 t2 t3 t4:dK}{w:World}{x:aJ}{i:Nat}
theorem aav(ha:0<=a/\a<=255)(hr:dG w [] r s1 s2 s3 s4 s5 s6 s7)(hc:jE w [] c t1 t2 t3 t4)(ht:Tab w)(hf:yI r c)(hg:f_ r i c)(hx:r.rounds[i]?=some x):
 CB 6 #[.agg (aV r s1 s2 s3 s4 s5 s6 s7).toArray,.int .i64 i,.agg (dI t1 t2 t3 t4).toArray,.int .u8 a,.bool false] (.bool true) w:=by
 refine wid ?_;obtain⟨A,p,pc⟩:=s2;obtain⟨B,q,qc⟩:=t2;obtain⟨hp1,hp2,hp3,-,-⟩:=wK hg;have hsx:Sl bW w [] A p pc r.bonus:=hr.bonus;have hsl:Sl Int w [] B q qc c.bonus:=hc.bonus;have hle:c.bonus.length=r.bonus.length:=by have h:=hp2;unfold dV at h;rw[Bool.and_eq_true]at h;exact of_decide_eq_true h.1
 obtain rfl:p=q:=by have:=hsx.len;have:=hsl.len;omega
 obtain⟨W1,hW1,F1⟩:=dR (((Fr.nil w).a w.heap.size (aV r s1 ⟨A,p,pc⟩ s3 s4 s5 s6 s7) 28).a (w.heap.size+1) (dI t1 ⟨B,p,qc⟩ t3 t4) 32);have o1:=aW F1;have F:=Hd F1;obtain⟨N,hN⟩:=aC (eY c.marks);have HN:=Hd hN;have H:=oK hr hc ht hf hg;have HX:=Hd hx;have hwa:IntKind.i64.wrap a=a:=by rw[IntKind.wrap_i64];omega
 rcases Nat.eq_zero_or_pos p with rfl|hp
 ·clear F1 hr hc ht hf hg hx hN;refine ent func6 rfl ntmps6 ?_
  gi_wp2_with (first
   |(have g:=G3.out;clear g;have X:=z_ (H.out.2.1.go F.out.bl) H.out.2.2.2.1.lens.1 H.out.2.2.2.1.mark;rw[HN.out]at X;refine Cl 12 X ?_;clear X;rintro e w5 ⟨rfl,hb5⟩;replace F:=Hd (F.out.go hb5);have o5:=aW F.out;obtain⟨wd,hwd⟩:=aC w5.drew;have FD:=Hd (show Fr w wd _ from hwd▸F.out.drew);have u5:=AQ F.out;have v5:=AQ FD.out;have v6:=AQ FD.out.drew;clear hb5;rcases Nat.eq_zero_or_pos N with rfl|hn;rotate_left;have hn2:(N:Int)>0:=by omega)
   |(have g:=G2.out;clear g;have X:=tY (i:=(i:Int)) (H.out.1.go F.out.bl) (H.out.2.1.go F.out.bl) H.out.2.2.2.1.fw.1 (b_.nil _);refine Cl 9 X ?_;clear X;rintro e w4 hw;obtain⟨K,rfl,hK,hb2⟩:=hw.of;replace F:=Hd (F.out.go hb2);have o4:=aW F.out;clear hb2 hw hK;have G3:=Hd trivial;rcases MO K with rfl|hkb)
   |(have g:=G1.out;clear g;have X:=zH (H.out.1.go F.out.bl) (H.out.2.1.go F.out.bl);refine Cl 8 X ?_;clear X;rintro e w3 hw;obtain⟨b,rfl,hb,hb2⟩:=hw.of;replace F:=Hd (F.out.go hb2);have o3:=aW F.out;have G2:=Hd trivial;clear hb hb2 hw;cases b)
   |(refine Cl 7 (EI (tab_below H.out.2.2.1 F.out.bl)) ?_;rintro e w2 ⟨rfl,hb2⟩;replace F:=Hd (F.out.go hb2);have o2:=aW F.out;have G1:=Hd trivial;clear hb2)
   |(refine⟨trivial,?_⟩))
  try any_goals(exact(gK (by assumption)).elim)
  any_goals(go_ret;exact⟨rfl,F.out.bl⟩)
  refine ak [] (List.range 7) (by kernel_rfl) (by kernel_rfl) ?_;rw[hwd];refine eH ?_;refine aK ?_;refine lit ?_;gi_wp2
  skip
  go_ret;exact⟨rfl,FD.out.bl⟩
 ·obtain⟨j,hj,hjr⟩:=tmod_lt ha.1 hp;have hpn:¬p=0:=by omega
  have hp0:¬(p:Int)=0:=by omega
  have abA:p<=70:=by have h1:=hsl.len;have h2:=hf.lens.2.1;omega
  have hwj:IntKind.i64.wrap (j:Int)=(j:Int):=by rw[IntKind.wrap_i64];omega
  obtain⟨z,hz⟩:=dW r.bonus j (by have:=hsx.len;omega);obtain⟨b1,u1,hA,-,z1,z2⟩:=hsx.NQ hz;obtain⟨b2,u2,y,hB,y1,hyi,-,hy⟩:=hsl.pR hj;subst hA;subst hB;have hb1:b1<w.heap.size:=World.block_lt_of_cell? w _ z1;have hb2:b2<w.heap.size:=World.block_lt_of_cell? w _ y1;have HZ:=fB hz hy hsl;by_cases hlt:y<z.2.2;rotate_left;have hge:z.2.2<=y:=by omega
  all_goals
   clear F1 hr hc ht hf hg hx hN hz hy hsl hsx;refine ent func6 rfl ntmps6 ?_
   gi_wp2_with (first
    |(have g:=G3.out;clear g;have X:=z_ (H.out.2.1.go F.out.bl) H.out.2.2.2.1.lens.1 H.out.2.2.2.1.mark;rw[HN.out]at X;refine Cl 12 X ?_;clear X;rintro e w5 ⟨rfl,hb5⟩;replace F:=Hd (F.out.go hb5);have o5:=aW F.out;obtain⟨wd,hwd⟩:=aC w5.drew;have FD:=Hd (show Fr w wd _ from hwd▸F.out.drew);have u5:=AQ F.out;have v5:=AQ FD.out;have v6:=AQ FD.out.drew;clear hb5;rcases Nat.eq_zero_or_pos N with rfl|hn;rotate_left;have hn2:(N:Int)>0:=by omega)
    |(have g:=G2.out;clear g;have X:=tY (i:=(i:Int)) (H.out.1.go F.out.bl) (H.out.2.1.go F.out.bl) H.out.2.2.2.1.fw.1 (b_.nil _);refine Cl 9 X ?_;clear X;rintro e w4 hw;obtain⟨K,rfl,hK,hb2⟩:=hw.of;replace F:=Hd (F.out.go hb2);have o4:=aW F.out;clear hb2 hw hK;have G3:=Hd trivial;rcases MO K with rfl|hkb)
    |(have g:=G1.out;clear g;have X:=zH (H.out.1.go F.out.bl) (H.out.2.1.go F.out.bl);refine Cl 8 X ?_;clear X;rintro e w3 hw;obtain⟨b,rfl,hb,hb2⟩:=hw.of;replace F:=Hd (F.out.go hb2);have o3:=aW F.out;have G2:=Hd trivial;clear hb hb2 hw;cases b)
    |(refine Cl 7 (EI (tab_below H.out.2.2.1 F.out.bl)) ?_;rintro e w2 ⟨rfl,hb2⟩;replace F:=Hd (F.out.go hb2);have o2:=aW F.out;have G1:=Hd trivial;clear hb2)
    |(refine⟨trivial,?_⟩))
   try any_goals(exact(gK (by assumption)).elim)
   any_goals(go_ret;exact⟨rfl,F.out.bl⟩)
   refine ak [] (List.range 7) (by kernel_rfl) (by kernel_rfl) ?_;rw[hwd];refine eH ?_;refine aK ?_;refine lit ?_;gi_wp2
   skip
   have y2:=ah ((FD.out.bl.cell (p:=⟨b2,_,none⟩) hb2).trans y1);have y3:=ah ((FD.out.bl.cell (p:=⟨b1,_,none⟩) hb1).trans z2);refine ak [] (List.range 10) (by kernel_rfl) (by kernel_rfl) ?_;refine eH ?_;refine aK ?_;refine lit ?_
  ·gi_wp2;go_ret;exact⟨rfl,FD.out.bl.drew⟩
  have HC:=Hd (acN H.out.2.2.2.2 H.out.2.2.2.1 HX.out HN.out HZ.out.1 HZ.out.2.1 hlt);obtain⟨we,hwe⟩:=aC wd.drew;have FE:=Hd (show Fr w we _ from hwe▸FD.out.drew);have oe:=aW FE.out;obtain⟨vr,wC,rC,oC,hbC⟩:=uz (t:=26) underlying26 EJ (HZ.out.2.2.go FE.out.bl) (by omega);obtain⟨g,cap,rfl⟩:=qA oC hp;have hgl:=(oC.lt (k:=g) rfl).1;obtain⟨c1,f1,-⟩:=aad oC hj;rw[show c.bonus.getD j 0=y by rw[List.getD_eq_getElem?_getD,HZ.out.2.1];rfl]at c1;have acP:=HC.out.zi.2;have hwy:IntKind.i64.wrap (y+1)=y+1:=by rw[IntKind.wrap_i64];unfold i64 at hyi;omega
  obtain⟨W7,XM⟩:=aC (wC.setCell ⟨g,j,none⟩ (.int .i64 (y+1)));have O7:=A_ oC hj (x:=y+1) (by unfold i64 at hyi |-;omega);rw[XM]at O7;have hb7:Below we.heap.size we W7:=by rw[<-XM];exact hbC.setCell (p:=⟨g,j,none⟩) hgl _
  have o7:=aW (FE.out.go hb7);obtain⟨bd,hbd⟩:=aC W7.heap.size;have HW:=Hd (show w.heap.size+1<bd by have h1:=FE.out.mJ 1;have h2:=hb7.size;omega);obtain⟨W8,hW8,F8⟩:=dR ((FE.out.go hb7).a bd (dI t1 ⟨some ⟨b2,u2,none⟩,p,qc⟩ t3 t4) 32 hbd.symm);have o8:=aW F8;obtain⟨W9,hW9⟩:=aC (W8.setCell ⟨bd,1,none⟩ (.slice (some ⟨g,0,none⟩) p cap));have F9:Fr w W9 [(w.heap.size,aV r s1 ⟨some ⟨b1,u1,none⟩,p,pc⟩ s3 s4 s5 s6 s7),(w.heap.size+1,dI t1 ⟨some ⟨b2,u2,none⟩,p,qc⟩ t3 t4),(bd,dI t1 ⟨some ⟨g,0,none⟩,p,cap⟩ t3 t4)]:=by rw[<-hW9];exact Fr.qY (L:= [(w.heap.size,aV r s1 ⟨some ⟨b1,u1,none⟩,p,pc⟩ s3 s4 s5 s6 s7),(w.heap.size+1,dI t1 ⟨some ⟨b2,u2,none⟩,p,qc⟩ t3 t4)]) (C:=dI t1 ⟨some ⟨b2,u2,none⟩,p,qc⟩ t3 t4) F8 (by exact agB) (j:=1) rfl _
  have hs9:Sl Int W9 [] (some ⟨g,0,none⟩) p cap (c.bonus.set j (y+1)):=by obtain⟨A7,c7,e7,hs7⟩:=O7.sl (by omega) (by simp);cases e7;have h8:=(hs7.more (b:=bd) (Nat.le_of_eq hbd)).go (show Below W7.heap.size W7 W8 by rw[<-hW8];exact bel);rw[<-hW9];exact(h8.keep ((Keeps.refl [bd] W8).setCell (p:=⟨bd,1,none⟩) (.inl (by simp)) _)).less (by simp)
  obtain⟨wc,hwc⟩:=aC W9.drew;have FF:=Hd (show Fr w wc _ from hwc▸F9.drew);obtain⟨M',hM1⟩:=aC ([]:List Nat);have AU:=Hd (show jE wc M' { c with bonus:=c.bonus.set j (y+1) } t1 ⟨some ⟨g,0,none⟩,p,cap⟩ t3 t4 by have hd:=H.out.2.1.go FF.out.bl;have hs:=hs9.go (show Below W9.heap.size W9 wc by rw[<-hwc];exact(Below.refl _ _).drew);rw[<-hM1];exact⟨hd.marks,hs,hd.malus,hd.prev⟩);have RR:=Hd (show dG wc M' r _ _ _ _ _ _ _ from hM1▸H.out.1.go FF.out.bl);have HB:=Hd (show b_ M' wc from hM1▸b_.nil _);have HM1:=Hd hM1;clear hM1;have HI:=Hd2 (show i64 3 by unfold i64;omega) (show s5.n<=1000 by exact agy);have HCE:=Hd rC;have hgd:g<W7.heap.size:=(O7.lt (k:=g) rfl).2;clear rC oC hbC O7 F8 F9 hs9 hb7 hyi abA
  gi_wp2_with (first
   |(gi_at_builtin;refine wpListIn_plain rfl fun K hK'=>?_;refine aI _ _ _ rfl rfl rfl HCE.out (hK' _ _ ?_);clear hK' K)
   |fail)
  clear o1 o2 o3 o4 o5 oe o7 o8 u5 v5 v6 y2 y3 c1 f1 hwa hwy hjr hwj hW1 XM hW8 hW9 hwd hwe hlt;have vF:=AQ FF.out;refine aP [] 6 (by kernel_rfl) (by kernel_rfl) ?_;rw[hwc];clear hwc;refine ay 0 ?_;refine ay 1 ?_;refine ay 2 ?_;clear vF
  iterate 3 (all_goals(refine abO [3,4,5] (A_c ?_ (A_c ?_ (A_c ?_ A_n)))<;>(first
   |exact ER.no
   |(refine ER.mk 3 fun K hK=>?_;gi_wp2;refine Cm (BM _ _ _ _ _) ?_;rintro e wc ⟨rfl,hb2⟩;replace FF:=Hd (FF.out.go hb2);replace RR:=Hd (RR.out.go hb2);replace AU:=Hd (AU.out.go hb2);replace HB:=Hd (HB.out.le hb2.size);refine hK _ _ ⟨?_,?_⟩;clear hK K;·exact Keeps.of_below hb2 _
     refine lit ?_;clear hb2)
   |(refine ER.mk 4 fun K hK=>?_;gi_wp2;have X:=EP HI.out.1 HI.out.2 HB.out RR.out HX.out;refine⟨trivial,(callsIn_wide.2 X).mono ?_⟩;clear X;rintro e wc ⟨t5,rfl,hra,hb2⟩;have RA:=Hd hra;replace FF:=Hd (FF.out.go hb2);replace AU:=Hd (AU.out.go hb2);replace HB:=Hd (HB.out.le hb2.size);refine hK _ _ ⟨?_,?_⟩;clear hK K;·exact Keeps.of_below hb2 _
     refine lit ?_;clear hra hb2 RR)
   |(refine ER.mk 5 fun K hK=>?_;obtain⟨ba,hba⟩:=aC wc.heap.size;obtain⟨wc,hV,hb2,FV⟩:=fP (w:=wc) (FF.out.a ba z9 28 hba.symm);obtain⟨M',hM2⟩:=aC (ba::M');have hl:=Nat.le_of_eq hba;have HY:=Hd (show bd<ba by have:=FF.out.mJ 2;omega)
     first
      |(replace RR:=Hd ((RR.out.more hl).go hb2);rw[hM2]at RR)
      |(replace RA:=Hd ((RA.out.more hl).go hb2);rw[hM2]at RA)
     replace AU:=Hd ((AU.out.more hl).go hb2);rw[hM2]at AU;replace HB:=Hd (show b_ M' wc by rw[<-hM2];exact(HB.out.le hb2.size).cons (FV.mJ 3));replace FF:=Hd FV;have qx:=Hd hM2;clear hM2;gi_wp2;refine⟨Keeps.of_below hb2 _,?_⟩;refine lit ?_;try rw[hba]
     clear FV hV hba hl hb2))))
  all_goals
   obtain rfl:=qx.out;obtain rfl:=HM1.out;obtain⟨WG,hWG⟩:=aC (fM wc ba 0 (aV (Az r i x (wO 3)) s1 ⟨some ⟨b1,u1,none⟩,p,pc⟩ s3 s4 t5 s6 s7));have P:=(FF.out.only (L':= [(ba,z9)]) (by simp)).oh (us:=aV (Az r i x (wO 3)) s1 ⟨some ⟨b1,u1,none⟩,p,pc⟩ s3 s4 t5 s6 s7) rfl hWG;have Q:=(FF.out.only (L':= [(w.heap.size,aV r s1 ⟨some ⟨b1,u1,none⟩,p,pc⟩ s3 s4 s5 s6 s7),(w.heap.size+1,dI t1 ⟨some ⟨b2,u2,none⟩,p,qc⟩ t3 t4),(bd,dI t1 ⟨some ⟨g,0,none⟩,p,cap⟩ t3 t4)]) (by simp)).kb P.2 (FF.out.gen 3) (by have h1:=HY.out;have h2:=HW.out;intro c vs hm;simp at hm;omega);have F:=Hd (Q.jn P.1);replace RA:=Hd ((RA.out.keep P.2.k).less (M':= []) (by simp));replace AU:=Hd ((AU.out.keep P.2.k).less (M':= []) (by simp));have o3:=aW FF.out;simp only[fM,Nat.zero_add]at hWG;clear P Q FF;refine iq 1 ?_;refine jW fun K hK K' hK'=>?_;gi_wp2;refine tail_nil 7 ?_;simp only[cu];clear o3 hWG;have o1:=aW F.out;obtain⟨Q1,EL⟩:=aC (rG (kW (Az r i x (wO 3)) c) (wO 3));obtain⟨Q2,hQ2⟩:∃Q,rG (kW (Az r i x (wO 3)) { c with bonus:=c.bonus.set j (y+1) }) (wO 3)=Q:=⟨_,rfl⟩;have HQ:=oK (show Js Q1 (eP z.2.1 1)=Q2 by rw[<-EL,<-hQ2];exact HC.out.val) (show Q1.ok by rw[<-EL];exact HC.out.ok.1) (show Fine Q1 (eP z.2.1 1) by rw[<-EL];exact HC.out.fine) EL hQ2;clear EL hQ2;gi_wp2;have X:=Ox RA.out HC.out.f0.fw.1.fw (b_.nil _);rw[HC.out.code]at X;refine Cl 20 X ?_;clear X;rintro e wa ⟨rfl,hb⟩;replace F:=Hd (F.out.go hb);replace RA:=Hd (RA.out.go hb);replace AU:=Hd (AU.out.go hb);clear hb o1;have o1:=aW F.out;gi_wp2;have X:=Nj RA.out (H.out.2.1.go F.out.bl) HC.out.g0 HC.out.f0 HC.out.hx rfl HN.out (tab_below H.out.2.2.1 F.out.bl) (b_.nil _);rw[show au (AL x (wO 3))=wO 3 from rfl,HQ.out.2.2.2.1]at X;refine Cl 11 X ?_;clear X;rintro e wq ⟨u,rfl,zq,hbq⟩;obtain⟨pc1,qc1,Ac1,nc1,cc1,Bc1,mc1,dc1,rfl,qc⟩:=QC.of zq;obtain⟨V,hV,F4⟩:=dR ((F.out.go hbq).a wq.heap.size [.bool pc1,.slice Ac1 nc1 cc1,.bool qc1,.slice Bc1 mc1 dc1] 42);have hb4:Below wq.heap.size wq V:=by rw[<-hV];exact bel
   have hby:=hbq.trans (hb4.mono hbq.size);have QX:=Hd (qc.go hb4);clear o1;replace F:=Hd F4;have o1:=aW F.out;clear F4 zq qc hbq hb4;replace RA:=Hd (RA.out.go hby);replace AU:=Hd (AU.out.go hby);clear hby;gi_wp2;have X:=Nj RA.out AU.out HC.out.g1 HC.out.f1 HC.out.hx rfl HC.out.m1 (tab_below H.out.2.2.1 F.out.bl) (b_.nil _);rw[show au (AL x (wO 3))=wO 3 from rfl,HQ.out.2.2.2.2]at X;exact ad7
theorem aaw(ha:0<=a/\a<=255)(hr:dG w [] r s1 s2 s3 s4 s5 s6 s7)(hc:jE w [] c t1 t2 t3 t4)(ht:Tab w)(hf:yI r c)(hg:f_ r i c)(hx:r.rounds[i]?=some x):
 CB 6 #[.agg (aV r s1 s2 s3 s4 s5 s6 s7).toArray,.int .i64 i,.agg (dI t1 t2 t3 t4).toArray,.int .u8 a,.bool true] (.bool true) w:=by
 refine wid ?_;obtain⟨A,p,pc⟩:=s3;obtain⟨B,q,qc⟩:=t3;obtain⟨hp1,hp2,hp3,-,-⟩:=wK hg;have hsx:Sl bW w [] A p pc r.malus:=hr.malus;have hsl:Sl Int w [] B q qc c.malus:=hc.malus;have hle:c.malus.length=r.malus.length:=by have h:=hp3;unfold dV at h;rw[Bool.and_eq_true]at h;exact of_decide_eq_true h.1
 obtain rfl:p=q:=by have:=hsx.len;have:=hsl.len;omega
 obtain⟨W1,hW1,F1⟩:=dR (((Fr.nil w).a w.heap.size (aV r s1 s2 ⟨A,p,pc⟩ s4 s5 s6 s7) 28).a (w.heap.size+1) (dI t1 t2 ⟨B,p,qc⟩ t4) 32);have o1:=aW F1;have F:=Hd F1;obtain⟨N,hN⟩:=aC (eY c.marks);have HN:=Hd hN;have H:=oK hr hc ht hf hg;have HX:=Hd hx;have hwa:IntKind.i64.wrap a=a:=by rw[IntKind.wrap_i64];omega
 rcases Nat.eq_zero_or_pos p with rfl|hp
 ·clear F1 hr hc ht hf hg hx hN;refine ent func6 rfl ntmps6 ?_
  gi_wp2_with (first
   |(have g:=G3.out;clear g;have X:=z_ (H.out.2.1.go F.out.bl) H.out.2.2.2.1.lens.1 H.out.2.2.2.1.mark;rw[HN.out]at X;refine Cl 12 X ?_;clear X;rintro e w5 ⟨rfl,hb5⟩;replace F:=Hd (F.out.go hb5);have o5:=aW F.out;obtain⟨wd,hwd⟩:=aC w5.drew;have FD:=Hd (show Fr w wd _ from hwd▸F.out.drew);have u5:=AQ F.out;have v5:=AQ FD.out;have v6:=AQ FD.out.drew;clear hb5;rcases Nat.eq_zero_or_pos N with rfl|hn;rotate_left;have hn2:(N:Int)>0:=by omega)
   |(have g:=G2.out;clear g;have X:=tY (i:=(i:Int)) (H.out.1.go F.out.bl) (H.out.2.1.go F.out.bl) H.out.2.2.2.1.fw.1 (b_.nil _);refine Cl 9 X ?_;clear X;rintro e w4 hw;obtain⟨K,rfl,hK,hb2⟩:=hw.of;replace F:=Hd (F.out.go hb2);have o4:=aW F.out;clear hb2 hw hK;have G3:=Hd trivial;rcases MO K with rfl|hkb)
   |(have g:=G1.out;clear g;have X:=zH (H.out.1.go F.out.bl) (H.out.2.1.go F.out.bl);refine Cl 8 X ?_;clear X;rintro e w3 hw;obtain⟨b,rfl,hb,hb2⟩:=hw.of;replace F:=Hd (F.out.go hb2);have o3:=aW F.out;have G2:=Hd trivial;clear hb hb2 hw;cases b)
   |(refine Cl 7 (EI (tab_below H.out.2.2.1 F.out.bl)) ?_;rintro e w2 ⟨rfl,hb2⟩;replace F:=Hd (F.out.go hb2);have o2:=aW F.out;have G1:=Hd trivial;clear hb2)
   |(refine⟨trivial,?_⟩))
  try any_goals(exact(gK (by assumption)).elim)
  any_goals(go_ret;exact⟨rfl,F.out.bl⟩)
  refine ak [] (List.range 7) (by kernel_rfl) (by kernel_rfl) ?_;rw[hwd];refine eH ?_;refine aK ?_;refine lit ?_;gi_wp2;refine ak [] (List.range 7) (by kernel_rfl) (by kernel_rfl) ?_;obtain⟨wd,hwd2⟩:=aC wd.drew;rw[hwd2]at v6 |-;replace FD:=Hd (show Fr w wd _ from hwd2▸FD.out.drew);refine eH ?_;refine aK ?_;refine lit ?_;gi_wp2;clear hwd2;go_ret;exact⟨rfl,FD.out.bl⟩
 ·obtain⟨j,hj,hjr⟩:=tmod_lt ha.1 hp;have hpn:¬p=0:=by omega
  have hp0:¬(p:Int)=0:=by omega
  have abA:p<=70:=by have h1:=hsl.len;have h2:=hf.lens.2.2.1;omega
  have hwj:IntKind.i64.wrap (j:Int)=(j:Int):=by rw[IntKind.wrap_i64];omega
  obtain⟨z,hz⟩:=dW r.malus j (by have:=hsx.len;omega);obtain⟨b1,u1,hA,-,z1,z2⟩:=hsx.NQ hz;obtain⟨b2,u2,y,hB,y1,hyi,-,hy⟩:=hsl.pR hj;subst hA;subst hB;have hb1:b1<w.heap.size:=World.block_lt_of_cell? w _ z1;have hb2:b2<w.heap.size:=World.block_lt_of_cell? w _ y1;have HZ:=fB hz hy hsl;by_cases hlt:y<z.2.2;rotate_left;have hge:z.2.2<=y:=by omega
  all_goals
   clear F1 hr hc ht hf hg hx hN hz hy hsl hsx;refine ent func6 rfl ntmps6 ?_
   gi_wp2_with (first
    |(have g:=G3.out;clear g;have X:=z_ (H.out.2.1.go F.out.bl) H.out.2.2.2.1.lens.1 H.out.2.2.2.1.mark;rw[HN.out]at X;refine Cl 12 X ?_;clear X;rintro e w5 ⟨rfl,hb5⟩;replace F:=Hd (F.out.go hb5);have o5:=aW F.out;obtain⟨wd,hwd⟩:=aC w5.drew;have FD:=Hd (show Fr w wd _ from hwd▸F.out.drew);have u5:=AQ F.out;have v5:=AQ FD.out;have v6:=AQ FD.out.drew;clear hb5;rcases Nat.eq_zero_or_pos N with rfl|hn;rotate_left;have hn2:(N:Int)>0:=by omega)
    |(have g:=G2.out;clear g;have X:=tY (i:=(i:Int)) (H.out.1.go F.out.bl) (H.out.2.1.go F.out.bl) H.out.2.2.2.1.fw.1 (b_.nil _);refine Cl 9 X ?_;clear X;rintro e w4 hw;obtain⟨K,rfl,hK,hb2⟩:=hw.of;replace F:=Hd (F.out.go hb2);have o4:=aW F.out;clear hb2 hw hK;have G3:=Hd trivial;rcases MO K with rfl|hkb)
    |(have g:=G1.out;clear g;have X:=zH (H.out.1.go F.out.bl) (H.out.2.1.go F.out.bl);refine Cl 8 X ?_;clear X;rintro e w3 hw;obtain⟨b,rfl,hb,hb2⟩:=hw.of;replace F:=Hd (F.out.go hb2);have o3:=aW F.out;have G2:=Hd trivial;clear hb hb2 hw;cases b)
    |(refine Cl 7 (EI (tab_below H.out.2.2.1 F.out.bl)) ?_;rintro e w2 ⟨rfl,hb2⟩;replace F:=Hd (F.out.go hb2);have o2:=aW F.out;have G1:=Hd trivial;clear hb2)
    |(refine⟨trivial,?_⟩))
   try any_goals(exact(gK (by assumption)).elim)
   any_goals(go_ret;exact⟨rfl,F.out.bl⟩)
   refine ak [] (List.range 7) (by kernel_rfl) (by kernel_rfl) ?_;rw[hwd];refine eH ?_;refine aK ?_;refine lit ?_;gi_wp2;refine ak [] (List.range 7) (by kernel_rfl) (by kernel_rfl) ?_;obtain⟨wd,hwd2⟩:=aC wd.drew;rw[hwd2]at v6 |-;replace FD:=Hd (show Fr w wd _ from hwd2▸FD.out.drew);refine eH ?_;refine aK ?_;refine lit ?_;gi_wp2;clear hwd2;have y2:=ah ((FD.out.bl.cell (p:=⟨b2,_,none⟩) hb2).trans y1);have y3:=ah ((FD.out.bl.cell (p:=⟨b1,_,none⟩) hb1).trans z2);refine ak [] (List.range 10) (by kernel_rfl) (by kernel_rfl) ?_;refine eH ?_;refine aK ?_;refine lit ?_
  ·gi_wp2;go_ret;exact⟨rfl,FD.out.bl.drew⟩
  have HC:=Hd (acO H.out.2.2.2.2 H.out.2.2.2.1 HX.out HN.out HZ.out.1 HZ.out.2.1 hlt);obtain⟨we,hwe⟩:=aC wd.drew;have FE:=Hd (show Fr w we _ from hwe▸FD.out.drew);have oe:=aW FE.out;obtain⟨vr,wC,rC,oC,hbC⟩:=uz (t:=26) underlying26 EJ (HZ.out.2.2.go FE.out.bl) (by omega);obtain⟨g,cap,rfl⟩:=qA oC hp;have hgl:=(oC.lt (k:=g) rfl).1;obtain⟨c1,f1,-⟩:=aad oC hj;rw[show c.malus.getD j 0=y by rw[List.getD_eq_getElem?_getD,HZ.out.2.1];rfl]at c1;have acP:=HC.out.zi.2;have hwy:IntKind.i64.wrap (y+1)=y+1:=by rw[IntKind.wrap_i64];unfold i64 at hyi;omega
  obtain⟨W7,XM⟩:=aC (wC.setCell ⟨g,j,none⟩ (.int .i64 (y+1)));have O7:=A_ oC hj (x:=y+1) (by unfold i64 at hyi |-;omega);rw[XM]at O7;have hb7:Below we.heap.size we W7:=by rw[<-XM];exact hbC.setCell (p:=⟨g,j,none⟩) hgl _
  have o7:=aW (FE.out.go hb7);obtain⟨bd,hbd⟩:=aC W7.heap.size;have HW:=Hd (show w.heap.size+1<bd by have h1:=FE.out.mJ 1;have h2:=hb7.size;omega);obtain⟨W8,hW8,F8⟩:=dR ((FE.out.go hb7).a bd (dI t1 t2 ⟨some ⟨b2,u2,none⟩,p,qc⟩ t4) 32 hbd.symm);have o8:=aW F8;obtain⟨W9,hW9⟩:=aC (W8.setCell ⟨bd,2,none⟩ (.slice (some ⟨g,0,none⟩) p cap));have F9:Fr w W9 [(w.heap.size,aV r s1 s2 ⟨some ⟨b1,u1,none⟩,p,pc⟩ s4 s5 s6 s7),(w.heap.size+1,dI t1 t2 ⟨some ⟨b2,u2,none⟩,p,qc⟩ t4),(bd,dI t1 t2 ⟨some ⟨g,0,none⟩,p,cap⟩ t4)]:=by rw[<-hW9];exact Fr.qY (L:= [(w.heap.size,aV r s1 s2 ⟨some ⟨b1,u1,none⟩,p,pc⟩ s4 s5 s6 s7),(w.heap.size+1,dI t1 t2 ⟨some ⟨b2,u2,none⟩,p,qc⟩ t4)]) (C:=dI t1 t2 ⟨some ⟨b2,u2,none⟩,p,qc⟩ t4) F8 (by exact agB) (j:=2) rfl _
  have hs9:Sl Int W9 [] (some ⟨g,0,none⟩) p cap (c.malus.set j (y+1)):=by obtain⟨A7,c7,e7,hs7⟩:=O7.sl (by omega) (by simp);cases e7;have h8:=(hs7.more (b:=bd) (Nat.le_of_eq hbd)).go (show Below W7.heap.size W7 W8 by rw[<-hW8];exact bel);rw[<-hW9];exact(h8.keep ((Keeps.refl [bd] W8).setCell (p:=⟨bd,2,none⟩) (.inl (by simp)) _)).less (by simp)
  obtain⟨wc,hwc⟩:=aC W9.drew;have FF:=Hd (show Fr w wc _ from hwc▸F9.drew);obtain⟨M',hM1⟩:=aC ([]:List Nat);have AU:=Hd (show jE wc M' { c with malus:=c.malus.set j (y+1) } t1 t2 ⟨some ⟨g,0,none⟩,p,cap⟩ t4 by have hd:=H.out.2.1.go FF.out.bl;have hs:=hs9.go (show Below W9.heap.size W9 wc by rw[<-hwc];exact(Below.refl _ _).drew);rw[<-hM1];exact⟨hd.marks,hd.bonus,hs,hd.prev⟩);have RR:=Hd (show dG wc M' r _ _ _ _ _ _ _ from hM1▸H.out.1.go FF.out.bl);have HB:=Hd (show b_ M' wc from hM1▸b_.nil _);have HM1:=Hd hM1;clear hM1;have HI:=Hd2 (show i64 4 by unfold i64;omega) (show s5.n<=1000 by exact agy);have HCE:=Hd rC;have hgd:g<W7.heap.size:=(O7.lt (k:=g) rfl).2;clear rC oC hbC O7 F8 F9 hs9 hb7 hyi abA
  gi_wp2_with (first
   |(gi_at_builtin;refine wpListIn_plain rfl fun K hK'=>?_;refine aI _ _ _ rfl rfl rfl HCE.out (hK' _ _ ?_);clear hK' K)
   |fail)
  clear o1 o2 o3 o4 o5 oe o7 o8 u5 v5 v6 y2 y3 c1 f1 hwa hwy hjr hwj hW1 XM hW8 hW9 hwd hwe hlt;have vF:=AQ FF.out;refine aP [] 6 (by kernel_rfl) (by kernel_rfl) ?_;rw[hwc];clear hwc;refine ay 0 ?_;refine ay 1 ?_;refine ay 2 ?_;clear vF
  iterate 3 (all_goals(refine abO [3,4,5] (A_c ?_ (A_c ?_ (A_c ?_ A_n)))<;>(first
   |exact ER.no
   |(refine ER.mk 3 fun K hK=>?_;gi_wp2;refine Cm (BM _ _ _ _ _) ?_;rintro e wc ⟨rfl,hb2⟩;replace FF:=Hd (FF.out.go hb2);replace RR:=Hd (RR.out.go hb2);replace AU:=Hd (AU.out.go hb2);replace HB:=Hd (HB.out.le hb2.size);refine hK _ _ ⟨?_,?_⟩;clear hK K;·exact Keeps.of_below hb2 _
     refine lit ?_;clear hb2)
   |(refine ER.mk 4 fun K hK=>?_;gi_wp2;have X:=EP HI.out.1 HI.out.2 HB.out RR.out HX.out;refine⟨trivial,(callsIn_wide.2 X).mono ?_⟩;clear X;rintro e wc ⟨t5,rfl,hra,hb2⟩;have RA:=Hd hra;replace FF:=Hd (FF.out.go hb2);replace AU:=Hd (AU.out.go hb2);replace HB:=Hd (HB.out.le hb2.size);refine hK _ _ ⟨?_,?_⟩;clear hK K;·exact Keeps.of_below hb2 _
     refine lit ?_;clear hra hb2 RR)
   |(refine ER.mk 5 fun K hK=>?_;obtain⟨ba,hba⟩:=aC wc.heap.size;obtain⟨wc,hV,hb2,FV⟩:=fP (w:=wc) (FF.out.a ba z9 28 hba.symm);obtain⟨M',hM2⟩:=aC (ba::M');have hl:=Nat.le_of_eq hba;have HY:=Hd (show bd<ba by have:=FF.out.mJ 2;omega)
     first
      |(replace RR:=Hd ((RR.out.more hl).go hb2);rw[hM2]at RR)
      |(replace RA:=Hd ((RA.out.more hl).go hb2);rw[hM2]at RA)
     replace AU:=Hd ((AU.out.more hl).go hb2);rw[hM2]at AU;replace HB:=Hd (show b_ M' wc by rw[<-hM2];exact(HB.out.le hb2.size).cons (FV.mJ 3));replace FF:=Hd FV;have qx:=Hd hM2;clear hM2;gi_wp2;refine⟨Keeps.of_below hb2 _,?_⟩;refine lit ?_;try rw[hba]
     clear FV hV hba hl hb2))))
  all_goals
   obtain rfl:=qx.out;obtain rfl:=HM1.out;obtain⟨WG,hWG⟩:=aC (fM wc ba 0 (aV (Az r i x (wO 4)) s1 s2 ⟨some ⟨b1,u1,none⟩,p,pc⟩ s4 t5 s6 s7));have P:=(FF.out.only (L':= [(ba,z9)]) (by simp)).oh (us:=aV (Az r i x (wO 4)) s1 s2 ⟨some ⟨b1,u1,none⟩,p,pc⟩ s4 t5 s6 s7) rfl hWG;have Q:=(FF.out.only (L':= [(w.heap.size,aV r s1 s2 ⟨some ⟨b1,u1,none⟩,p,pc⟩ s4 s5 s6 s7),(w.heap.size+1,dI t1 t2 ⟨some ⟨b2,u2,none⟩,p,qc⟩ t4),(bd,dI t1 t2 ⟨some ⟨g,0,none⟩,p,cap⟩ t4)]) (by simp)).kb P.2 (FF.out.gen 3) (by have h1:=HY.out;have h2:=HW.out;intro c vs hm;simp at hm;omega);have F:=Hd (Q.jn P.1);replace RA:=Hd ((RA.out.keep P.2.k).less (M':= []) (by simp));replace AU:=Hd ((AU.out.keep P.2.k).less (M':= []) (by simp));have o3:=aW FF.out;simp only[fM,Nat.zero_add]at hWG;clear P Q FF;refine iq 1 ?_;refine jW fun K hK K' hK'=>?_;gi_wp2;refine tail_nil 7 ?_;simp only[cu];clear o3 hWG;have o1:=aW F.out;obtain⟨Q1,EL⟩:=aC (rG (kW (Az r i x (wO 4)) c) (wO 4));obtain⟨Q2,hQ2⟩:∃Q,rG (kW (Az r i x (wO 4)) { c with malus:=c.malus.set j (y+1) }) (wO 4)=Q:=⟨_,rfl⟩;have HQ:=oK (show Js Q1 (eP z.2.1 1)=Q2 by rw[<-EL,<-hQ2];exact HC.out.val) (show Q1.ok by rw[<-EL];exact HC.out.ok.1) (show Fine Q1 (eP z.2.1 1) by rw[<-EL];exact HC.out.fine) EL hQ2;clear EL hQ2;gi_wp2;have X:=Ox RA.out HC.out.f0.fw.1.fw (b_.nil _);rw[HC.out.code]at X;refine Cl 20 X ?_;clear X;rintro e wa ⟨rfl,hb⟩;replace F:=Hd (F.out.go hb);replace RA:=Hd (RA.out.go hb);replace AU:=Hd (AU.out.go hb);clear hb o1;have o1:=aW F.out;gi_wp2;have X:=Nj RA.out (H.out.2.1.go F.out.bl) HC.out.g0 HC.out.f0 HC.out.hx rfl HN.out (tab_below H.out.2.2.1 F.out.bl) (b_.nil _);rw[show au (AL x (wO 4))=wO 4 from rfl,HQ.out.2.2.2.1]at X;refine Cl 11 X ?_;clear X;rintro e wq ⟨u,rfl,zq,hbq⟩;obtain⟨pc1,qc1,Ac1,nc1,cc1,Bc1,mc1,dc1,rfl,qc⟩:=QC.of zq;obtain⟨V,hV,F4⟩:=dR ((F.out.go hbq).a wq.heap.size [.bool pc1,.slice Ac1 nc1 cc1,.bool qc1,.slice Bc1 mc1 dc1] 42);have hb4:Below wq.heap.size wq V:=by rw[<-hV];exact bel
   have hby:=hbq.trans (hb4.mono hbq.size);have QX:=Hd (qc.go hb4);clear o1;replace F:=Hd F4;have o1:=aW F.out;clear F4 zq qc hbq hb4;replace RA:=Hd (RA.out.go hby);replace AU:=Hd (AU.out.go hby);clear hby;gi_wp2;have X:=Nj RA.out AU.out HC.out.g1 HC.out.f1 HC.out.hx rfl HC.out.m1 (tab_below H.out.2.2.1 F.out.bl) (b_.nil _);rw[show au (AL x (wO 4))=wO 4 from rfl,HQ.out.2.2.2.2]at X;exact ad7
end
end
section
open Go.RowKit Go.Shelf
theorem AZ{r:aS}{s1 s2 s3 s4 s5 s6 s7:dK}{c:dS}{t1 t2 t3 t4:dK}{w:World}{i:Int}{b:Bool}(hr:dG w [] r s1 s2 s3 s4 s5 s6 s7)(hc:jE w [] c t1 t2 t3 t4)(ha:0<=a/\a<=255)(ht:Tab w):
 CB 6 #[.agg (aV r s1 s2 s3 s4 s5 s6 s7).toArray,.int .i64 i,.agg (dI t1 t2 t3 t4).toArray,.int .u8 a,.bool b] (.bool true) w:=by
 by_cases hf:yI r c
 ·by_cases hg:f_ r i c
  ·obtain⟨-,k,x,rfl,hx,-⟩:=id hg;cases b;·exact aav ha hr hc ht hf hg hx
   exact aaw ha hr hc ht hf hg hx
  exact Bo hr hc ht fun _=>hg
 ·exact Bo hr hc ht fun h=>absurd h hf
end
section
open Go.ChangeShapes Go.WideShapes Go.ChangeAt Go.RowKit Go.Deep Go.Joins
section
set_option maxRecDepth 100000
theorem own:ownKnob prog.godebug=none:=by kernel_rfl
theorem laidOut:laidOutB prog=true:=by kernel_rfl
theorem jU:Opens Int prog 3:=QU underlying3
theorem wM:Opens ByteArray prog 9:=IL underlying9
theorem uS:Opens (List Int) prog 26:=iI underlying26 (by kernel_rfl) (by decide+kernel) jU
theorem Zp:Opens bT prog 53:=fG underlying53 (by kernel_rfl) (aX rfl (by kernel_rfl) wM (aX rfl (by kernel_rfl) jU (aX rfl (by kernel_rfl) jU (aX rfl (by kernel_rfl) jU (aX rfl (by kernel_rfl) jU (aX rfl (by kernel_rfl) jU (iL rfl (by kernel_rfl) (qP underlying4))))))))
theorem Zq:Opens bW prog 61:=fG underlying61 (by kernel_rfl) (aX rfl (by kernel_rfl) wM (aX rfl (by kernel_rfl) jU (iL rfl (by kernel_rfl) jU)))
theorem abB:Opens bK prog 116:=fG underlying116 (by kernel_rfl) (aX rfl (by kernel_rfl) jU (aX rfl (by kernel_rfl) wM (iL rfl (by kernel_rfl) jU)))
theorem abC:Opens dA prog 108:=fG underlying108 (by kernel_rfl) (aX rfl (by kernel_rfl) wM (iL rfl (by kernel_rfl) (iI underlying106 (by kernel_rfl) (by decide+kernel) abB)))
theorem Zr:Opens aU prog 48:=NH underlying48 (by kernel_rfl) (by decide+kernel) ⟨rfl,rfl,rfl,rfl,rfl⟩ ⟨by kernel_rfl,by kernel_rfl,by kernel_rfl,by kernel_rfl,by kernel_rfl⟩ underlying3 underlying9 underlying3 underlying3 underlying46
theorem Xy:Opens aJ prog 50:=fG underlying50 (by kernel_rfl) (aX rfl (by kernel_rfl) wM (aX rfl (by kernel_rfl) jU (aX rfl (by kernel_rfl) jU (aX rfl (by kernel_rfl) jU (aX rfl (by kernel_rfl) (qP underlying4) (aX rfl (by kernel_rfl) (qP underlying4) (aX rfl (by kernel_rfl) Zr (aX rfl (by kernel_rfl) wM (iL rfl (by kernel_rfl) jU)))))))))
theorem Xz:Opens lG prog 40:=fG underlying40 (by kernel_rfl) (aX rfl (by kernel_rfl) (qP underlying4) (iL rfl (by kernel_rfl) uS))
theorem abD:Opens fC prog 42:=fG underlying42 (by kernel_rfl) (aX rfl (by kernel_rfl) Xz (iL rfl (by kernel_rfl) Xz))
abbrev adF:=ByteArray×List bT×List bW×List bW×List dA×List aJ×List Int×List Int×Int
abbrev adG:=List (List Int)×List Int×List Int×List fC
theorem Nq:Opens (List bW) prog 23:=iI underlying23 (by kernel_rfl) (by decide+kernel) Zq
theorem XA:Opens adF prog 28:=fG underlying28 (by kernel_rfl) (aX rfl (by kernel_rfl) wM (aX rfl (by kernel_rfl) (iI underlying22 (by kernel_rfl) (by decide+kernel) Zp) (aX rfl (by kernel_rfl) Nq (aX rfl (by kernel_rfl) Nq (aX rfl (by kernel_rfl) (iI underlying24 (by kernel_rfl) (by decide+kernel) abC) (aX rfl (by kernel_rfl) (iI underlying25 (by kernel_rfl) (by decide+kernel) Xy) (aX rfl (by kernel_rfl) uS (aX rfl (by kernel_rfl) uS (iL rfl (by kernel_rfl) jU)))))))))
theorem Zt:Opens adG prog 32:=fG underlying32 (by kernel_rfl) (aX rfl (by kernel_rfl) (iI underlying29 (by kernel_rfl) (by decide+kernel) uS) (aX rfl (by kernel_rfl) uS (aX rfl (by kernel_rfl) uS (iL rfl (by kernel_rfl) (iI underlying30 (by kernel_rfl) (by decide+kernel) abD)))))
section
variable {H:Type}{enc:TypeId×Value→H}{W:World}{v:Value}{d:DataW H}{p:List MemPlace}{b:Nat}
theorem Uc(hv:Value.okWide prog W .any b 28 v)(h:DataW.Trod enc prog W 0 (fun _=>true) true 28 v d p)(hw:∀n,n∈d.weights prog 28->n<=reachBytes):
 ∃r s1 s2 s3 s4 s5 s6 s7,v=.agg (aV r s1 s2 s3 s4 s5 s6 s7).toArray/\dG W [] r s1 s2 s3 s4 s5 s6 s7:=by
 obtain⟨cs,rfl,hsz⟩:=okWide_struct underlying28 hv;obtain⟨fuel,hg⟩:=h;rw[show(Value.cells (.agg cs)).toList=cs.toList from rfl]at hg;obtain⟨x,hx⟩:=XA H enc W true fuel _ d p hg hw;obtain⟨_,_,e,h0,_,_,rfl,⟨A1,n1,c1,rfl,g1⟩,_,_,rfl,⟨A2,n2,c2,rfl,g2⟩,_,_,rfl,⟨A3,n3,c3,rfl,g3⟩,_,_,rfl,⟨A4,n4,c4,rfl,g4⟩,_,_,rfl,⟨A5,n5,c5,rfl,g5⟩,_,_,rfl,⟨A6,n6,c6,rfl,g6⟩,_,_,rfl,⟨A7,n7,c7,rfl,g7⟩,⟨rfl,h8⟩⟩:=hx;have e0:_=_:=h0;subst e0;exact⟨⟨x.1,x.2.1,x.2.2.1,x.2.2.2.1,x.2.2.2.2.1,x.2.2.2.2.2.1,x.2.2.2.2.2.2.1,x.2.2.2.2.2.2.2.1,x.2.2.2.2.2.2.2.2⟩,⟨A1,n1,c1⟩,⟨A2,n2,c2⟩,⟨A3,n3,c3⟩,⟨A4,n4,c4⟩,⟨A5,n5,c5⟩,⟨A6,n6,c6⟩,⟨A7,n7,c7⟩,congrArg Value.agg (Array.toList_inj.1 e),g1,g2,g3,g4,g5,g6,g7,h8⟩
theorem XB(hv:Value.okWide prog W .any b 32 v)(h:DataW.Trod enc prog W 0 (fun _=>true) true 32 v d p)(hw:∀n,n∈d.weights prog 32->n<=reachBytes):
 ∃c t1 t2 t3 t4,v=.agg (dI t1 t2 t3 t4).toArray/\jE W [] c t1 t2 t3 t4:=by
 obtain⟨cs,rfl,hsz⟩:=okWide_struct underlying32 hv;obtain⟨fuel,hg⟩:=h;rw[show(Value.cells (.agg cs)).toList=cs.toList from rfl]at hg;obtain⟨x,hx⟩:=Zt H enc W true fuel _ d p hg hw;obtain⟨_,_,e,⟨A1,n1,c1,rfl,g1⟩,_,_,rfl,⟨A2,n2,c2,rfl,g2⟩,_,_,rfl,⟨A3,n3,c3,rfl,g3⟩,⟨A4,n4,c4,rfl,g4⟩⟩:=hx;exact⟨⟨x.1,x.2.1,x.2.2.1,x.2.2.2⟩,⟨A1,n1,c1⟩,⟨A2,n2,c2⟩,⟨A3,n3,c3⟩,⟨A4,n4,c4⟩,congrArg Value.agg (Array.toList_inj.1 e),g1,g2,g3,g4⟩
theorem Zu(hv:Value.okWide prog W .any b 3 v)(h:DataW.Trod enc prog W 0 (fun _=>true) true 3 v d p):∃x,v=.int .i64 x/\i64 x:=by obtain⟨x,rfl,-,-,wx⟩:=open_int underlying3 hv h;exact⟨x,rfl,wf_i64 wx⟩
end
end
section
set_option maxRecDepth 100000
section
variable {H:Type}{enc:TypeId×Value→H}{W:World}{v:Value}{d:DataW H}{p:List MemPlace}{b:Nat}
theorem abE(hv:Value.okWide prog W .any b 5 v)(h:DataW.Trod enc prog W 0 (fun _=>true) true 5 v d p):∃x,v=.int .u8 x/\0<=x/\x<=255:=by obtain⟨x,rfl,-,-,wx⟩:=open_int underlying5 hv h;have:=bounds_u8 wx;exact⟨x,rfl,by omega,by omega⟩
end
end
section
set_option maxRecDepth 100000
section
variable {H:Type}{enc:TypeId×Value→H}{W:World}{v:Value}{d:DataW H}{p:List MemPlace}{b:Nat}
theorem aax(hv:Value.okWide prog W .any b 4 v)(h:DataW.Trod enc prog W 0 (fun _=>true) true 4 v d p):∃x:Bool,v=.bool x/\True:=by obtain⟨x,rfl,-⟩:=open_bool underlying4 hv h;exact⟨x,rfl,trivial⟩
end
end
end
section
section
set_option maxRecDepth 100000
theorem Bq:((Rows.scoreCountsRow.inPlace==prog.inPlace 6))=true:=by kernel_rfl
theorem Bc:((Rows.scoreCountsRow.named==prog.varsNamed 6))=true:=by kernel_rfl
end
section
set_option maxRecDepth 100000
theorem Bf:((Rows.scoreCountsRow.unfollowed==prog.unfollowed 6))=true:=by kernel_rfl
theorem Bg:((Rows.scoreCountsRow.recurses==prog.recurses 6))=true:=by kernel_rfl
end
section
set_option maxRecDepth 100000
theorem gB{a b:Bool}(h:a=true)(k:b=true):(a&&b)=true:=by rw[h,k];rfl
theorem kr{p:Prop}(h:p:=by kernel_rfl):p:=h
theorem AO:joinedFacts prog 6 f6 Rows.scoreCountsSpec Rows.scoreCountsRow=true:=by unfold joinedFacts;exact gB (gB (gB (gB (gB (gB (gB (gB (gB (gB (gB (gB (gB (gB (gB (gB (gB (gB (gB (gB (gB (gB (gB (gB (gB (gB (gB (gB (gB (gB (gB kr kr) kr) kr) kr) kr) kr) kr) kr) Bq) Bf) Bg) Bc) kr) kr) kr) kr) kr) kr) kr) kr) kr) kr) kr) kr) kr) kr) kr) kr) kr) kr) kr
end
end
end Go.Proofs.YtlcgbfkdnmdigaaGreatDoor
