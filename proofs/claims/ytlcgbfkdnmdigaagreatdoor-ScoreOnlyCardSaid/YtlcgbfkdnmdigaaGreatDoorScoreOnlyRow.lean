/- ScoreOnly, proved: for every input the law returns true, and each argument reads as it did. No condition but the ties of the card. -/
import Derived.Test.YtlcgbfkdnmdigaaGreatDoorRows
import Derived.JoinedOf
import Derived.Test.YtlcgbfkdnmdigaaGreatDoorTie
import Derived.Test.YtlcgbfkdnmdigaaGreatDoorCards
import Derived.LaidMore
import Derived.Stop.Joined
import Derived.Stop.LaidErr
import Derived.SevenTiedAt
import Derived.Test.YtlcgbfkdnmdigaaGreatDoorM46
set_option linter.unusedVariables false
set_option linter.unusedSimpArgs false
set_option maxRecDepth 20000
set_option maxHeartbeats 6000000
namespace Go.Proofs.YtlcgbfkdnmdigaaGreatDoor
open Go.Proofs.Tryz
variable {n:Int}{y:aU}{I J:Fv}
section
open Go.RowKit Go.Shelf
def aah(k n:Int)(x:aU):Bool:=(iZ x).any fun y=>decide (y.kind=k)&&decide (y.n=n)
def aal(k n:Int)(l:List aU):Bool:=(Ah l).any fun y=>decide (y.kind=k)&&decide (y.n=n)
theorem aaJ(k n:Int)(x:aU):aah k n x=((decide (x.kind=k)&&decide (x.n=n))||aal k n x.l):=by unfold aah aal;rw[lW,List.any_cons]
theorem aaA{k:Int}{l:List aU}{i:Nat}{x:aU}(h:l[i]?=some x):aal k n (l.drop i)=(aah k n x||aal k n (l.drop (i+1))):=by rw[List.drop_eq_getElem_cons (List.getElem?_eq_some_iff.1 h).1,(List.getElem?_eq_some_iff.1 h).2];unfold aal aah;rw[Ah,List.any_append]
theorem aam{k:Int}{x:aU}(h:y∈iZ x)(hk:y.kind=k)(hn:y.n=n):aah k n x=true:=by unfold aah;exact List.any_eq_true.2 ⟨y,h,by simp[hk,hn]⟩
def AgP(I J:Fv)(y:aU):Prop:=(y.kind=2->I.tot y.n.toNat=J.tot y.n.toNat)/\(y.kind=3->I.bonus=J.bonus)/\(y.kind=4->I.malus=J.malus)/\(y.kind=5->I.prev.getD y.n.toNat zR=J.prev.getD y.n.toNat zR)
theorem aaG{x:aU}(h:AgP I J x)(l:List Rt):Uf I x.kind x.n x.d l=Uf J x.kind x.n x.d l:=by
 obtain⟨h1,h2,h3,h4⟩:=h;unfold Uf;by_cases e2:x.kind=2;·rw[e2];simp[h1 e2]
 by_cases e3:x.kind=3;·rw[e3];simp[h2 e3]
 by_cases e4:x.kind=4;·rw[e4];simp[h3 e4]
 by_cases e5:x.kind=5;·rw[e5];have h:=h4 e5;simp only[List.getD_eq_getElem?_getD]at h;simp[h]
 simp only[if_neg e2,if_neg e3,if_neg e4,if_neg e5]
theorem aaB(x:aU):(∀y,y∈iZ x->AgP I J y)->rG I x=rG J x:=by
 induction x using iY with
 |_ x ih=>
 intro h;rw[Qy,Qy,oC,oC];have e:x.l.map (rG I)=x.l.map (rG J):=List.map_congr_left fun y hy=>ih y hy fun z hz=>h z (by rw[lW];exact List.mem_cons_of_mem _ (qF hy hz));rw[e];exact aaG (h x (by rw[lW];exact List.mem_cons_self)) _
theorem aav(h:pX y)(hk:y.kind=3\/y.kind=4):y.n=0:=by
 obtain⟨nu,re,h,-,-,hn⟩:=h
 cases nu with
 |true=>rcases hk with e|e<;>(rw[e]at h;simp[vT,qZ]at h)
 |false=>
  cases re with
  |true=>rcases hk with e|e<;>(rw[e]at h;simp[vT,qZ]at h)
  |false=>exact(hn rfl).2 rfl
end
def aae{α:Type}(p:Nat->Bool)(a b:List α):Nat->List α
 |0=> []
 |k+1=>aae p a b k++(if p k then a[k]? else b[k]?).toList
theorem aad{α:Type}{p:Nat->Bool}{a b:List α}(hl:b.length=a.length):∀{k:Nat},k<=a.length->(aae p a b k).length=k/\∀n,n<k->(aae p a b k)[n]?=if p n then a[n]? else b[n]?
 |0,_=>⟨rfl,fun n h=>by omega⟩
 |k+1,hk=>by
  obtain⟨h1,h2⟩:=aad (p:=p) hl (k:=k) (by omega);obtain⟨x,hx⟩:∃x,(if p k then a[k]? else b[k]?)=some x:=by
   split;·exact⟨_,List.getElem?_eq_getElem (by omega)⟩
   exact⟨_,List.getElem?_eq_getElem (by omega)⟩
  rw[aae,hx];refine⟨by simp[h1],fun n hn=>?_⟩;by_cases e:n=k;·subst e;rw[List.getElem?_append_right (by omega),h1,hx];simp
  rw[List.getElem?_append_left (by omega)];exact h2 n (by omega)
theorem aai{α:Type}{p:Nat->Bool}{a b:List α}(hl:b.length=a.length){k:Nat}(hk:k<=a.length){x:α}(hx:x∈aae p a b k):x∈a\/x∈b:=by
 obtain⟨n,hn⟩:=List.mem_iff_getElem?.1 hx;obtain⟨h1,h2⟩:=aad (p:=p) hl hk;have hlt:=(List.getElem?_eq_some_iff.1 hn).1;rw[h2 n (by omega)]at hn;split at hn;·exact .inl (List.mem_of_getElem? hn)
 exact .inr (List.mem_of_getElem? hn)
theorem aas{α:Type}{p:Nat->Bool}{a b:List α}{k:Nat}{x y:α}(hx:a[k]?=some x)(hy:b[k]?=some y):aae p a b (k+1)=aae p a b k++ [if p k then x else y]:=by rw[aae,hx,hy];split<;>rfl
def pM(k:Int)(e:aU)(n:Nat):Bool:=aah k (n:Nat) e
def aaf(x:aU)(c o:dS):dS:=⟨aae (pM 2 x) c.marks o.marks c.marks.length,if aah 3 0 x then c.bonus else o.bonus,if aah 4 0 x then c.malus else o.malus,aae (pM 5 x) c.prev o.prev c.prev.length⟩
theorem aax{s:List (List Int)}(h:∀l,l∈s->∀m,m∈l->m≠ -1):eY s=0:=by
 by_cases e:eY s=0;·exact e
 obtain⟨l,hl,hm⟩:=Py e;exact absurd rfl (h l hl _ hm)
section
variable {r:aS}{k:Nat}{c o:dS}{x:aJ}{e:aU}
theorem aag(h:f_ r k c)(g:f_ r k o):o.marks.length=c.marks.length/\o.prev.length=c.prev.length:=by obtain⟨h1,-,-,h4,-⟩:=wK h;obtain⟨g1,-,-,g4,-⟩:=wK g;omega
theorem aaC(h:f_ r k c)(g:f_ r k o):f_ r k (aaf e c o):=by
 obtain⟨l1,l2⟩:=aag h g;obtain⟨x,hx,hc⟩:=Zi h;obtain⟨x',hx',hd⟩:=Zi g;obtain rfl:x=x':=by rw[hx]at hx';cases hx';rfl
 refine⟨h.1,k,x,rfl,hx,?_⟩;unfold kS at hc hd |-;simp only[Bool.and_eq_true,decide_eq_true_eq]at hc hd |-;obtain⟨⟨⟨⟨⟨c1,c2⟩,c3⟩,c4⟩,c5⟩,c6⟩:=hc;obtain⟨⟨⟨⟨⟨d1,d2⟩,d3⟩,d4⟩,d5⟩,d6⟩:=hd;obtain⟨m1,m2⟩:=aad (p:=pM 2 e) l1 (Nat.le_refl c.marks.length);obtain⟨n1,n2⟩:=aad (p:=pM 5 e) l2 (Nat.le_refl c.prev.length);refine⟨⟨⟨⟨⟨?_,?_⟩,?_⟩,?_⟩,?_⟩,?_⟩;·show(aae _ _ _ _).length=_;rw[m1,c1]
 ·show dV r.bonus (if _ then _ else _)=true;split<;>assumption
 ·show dV r.malus (if _ then _ else _)=true;split<;>assumption
 ·show(aae _ _ _ _).length=_;rw[n1,c4]
 ·rw[List.all_eq_true]at c5 d5 |-;intro q hq;obtain⟨n,hn⟩:=List.mem_iff_getElem?.1 hq;obtain⟨q1,q2⟩:=q;rw[List.getElem?_zip_eq_some]at hn;obtain⟨a1,a2⟩:=hn;have hlt:=(List.getElem?_eq_some_iff.1 a2).1;have a2':(aae (pM 2 e) c.marks o.marks c.marks.length)[n]?=some q2:=a2;rw[m2 n (by have:(aae (pM 2 e) c.marks o.marks c.marks.length).length=_:=m1;have h':n<(aae (pM 2 e) c.marks o.marks c.marks.length).length:=hlt;omega)]at a2';split at a2';·exact c5 _ (List.mem_of_getElem? (List.getElem?_zip_eq_some.2 ⟨a1,a2'⟩))
  exact d5 _ (List.mem_of_getElem? (List.getElem?_zip_eq_some.2 ⟨a1,a2'⟩))
 rw[List.all_eq_true]at c6 d6 |-;intro q hq;rcases aai l2 (Nat.le_refl _) hq with h|h;·exact c6 q h
 exact d6 q h
theorem aaH(h:f_ r k c)(g:f_ r k o)(hw:yI r c)(gw:yI r o):yI r (aaf e c o):=by
 obtain⟨l1,l2⟩:=aag h g;obtain⟨m1,-⟩:=aad (p:=pM 2 e) l1 (Nat.le_refl c.marks.length);obtain⟨n1,-⟩:=aad (p:=pM 5 e) l2 (Nat.le_refl c.prev.length);refine⟨hw.fw,hw.parts,⟨?_,?_,?_,?_⟩,fun l hl=>?_,fun q hq=>?_⟩;·show(aae _ _ _ _).length<=_;rw[m1];exact hw.lens.1
 ·show(if _ then _ else _:List Int).length<=_;split;·exact hw.lens.2.1
  exact gw.lens.2.1
 ·show(if _ then _ else _:List Int).length<=_;split;·exact hw.lens.2.2.1
  exact gw.lens.2.2.1
 ·show(aae _ _ _ _).length<=_;rw[n1];exact hw.lens.2.2.2
 ·rcases aai l1 (Nat.le_refl _) hl with h|h;·exact hw.mark l h
  exact gw.mark l h
 rcases aai l2 (Nat.le_refl _) hq with h|h;·exact hw.prev q h
 exact gw.prev q h
theorem aaD(h:f_ r k c)(g:f_ r k o)(hm:eY c.marks=0)(gm:eY o.marks=0):eY (aaf e c o).marks=0:=aax fun l hl m hm'=>by
  rcases aai (aag h g).1 (Nat.le_refl _) hl with q|q;·exact Et hm l q m hm'
  exact Et gm l q m hm'
theorem aaI(hx:r.rounds[k]?=some x)(hp:x.2.2.2.2.1=false)(h:f_ r k c)(g:f_ r k o):rG (kW r (aaf (au x) c o)) (au x)=rG (kW r c) (au x):=by
 obtain⟨l1,l2⟩:=aag h g;obtain⟨hc1,-,-,hc4,-⟩:=wK h;obtain⟨m1,m2⟩:=aad (p:=pM 2 (au x)) l1 (Nat.le_refl c.marks.length);obtain⟨n1,n2⟩:=aad (p:=pM 5 (au x)) l2 (Nat.le_refl c.prev.length);refine aaB _ fun y hy=>?_;have hpt:=pt_ok h.1 hx hp y hy;refine⟨fun e=>?_,fun e=>?_,fun e=>?_,fun e=>?_⟩
 ·have hn:=hpt.c e;have hy2:y.n=((y.n.toNat:Nat):Int):=by omega
  have hme:pM 2 (au x) y.n.toNat=true:=aam hy e hy2;have hlt:y.n.toNat<c.marks.length:=by omega
  have hd:=m2 _ hlt;rw[if_pos hme]at hd;have hcr:r.aT[y.n.toNat]?=some (r.aT[y.n.toNat]'(by omega)):=List.getElem?_eq_getElem _;have hmk:c.marks[y.n.toNat]?=some (c.marks[y.n.toNat]'hlt):=List.getElem?_eq_getElem _;have hd2:(aaf (au x) c o).marks[y.n.toNat]?=some (c.marks[y.n.toNat]'hlt):=hd.trans hmk;show(jq r (aaf (au x) c o)).getD _ _=(jq r c).getD _ _;unfold jq;rw[uK (fun p:bT×List Int=>qJ p.1 p.2) (oG hcr hd2) zR,uK (fun p:bT×List Int=>qJ p.1 p.2) (oG hcr hmk) zR]
 ·have hme:aah 3 0 (au x)=true:=aam hy e (aav hpt.sh (.inl e));show Ey r.bonus (if _ then _ else _)=_;rw[if_pos hme];rfl
 ·have hme:aah 4 0 (au x)=true:=aam hy e (aav hpt.sh (.inr e));show Ey r.malus (if _ then _ else _)=_;rw[if_pos hme];rfl
 have hn:=hpt.r e;have hy2:y.n=((y.n.toNat:Nat):Int):=by omega
 have hme:pM 5 (au x) y.n.toNat=true:=aam hy e hy2;have hlt:y.n.toNat<c.prev.length:=by omega
 have hd:=n2 _ hlt;rw[if_pos hme]at hd;show((aae _ c.prev o.prev c.prev.length).map OE).getD _ _=(c.prev.map OE).getD _ _;rw[List.getD_eq_getElem?_getD,List.getD_eq_getElem?_getD,List.getElem?_map,List.getElem?_map,hd]
end
section
open Go.RowKit
theorem aay{w W:World}{L:List (Nat×List Value)}{q:World->Prop}(h:Fr w W L)(e:∀V,At V L=q V:=by(intro V;simp only[List.nil_append,List.cons_append,At,Ce,Nat.zero_add,Nat.reduceAdd,and_true];exact rfl)):∀V,Keeps [] W V->q V:=fun V k=>e V▸Zx L fun b vs hm i u hu=>by have h1:=h.at_ b vs hm i u hu;have h2:=k.block b (h.lt b vs hm) (by simp);exact⟨by rw[<-h1.1];simp only[World.cell?,h2],by rw[<-h1.2];simp only[World.frozen?,h2]⟩
open Go.Shelf
attribute [local go_sem] Oper.semAt_some
theorem aat(k n:Int):∀(x:aU) {M:List Nat}{A:Option Addr}{m c:Nat}{w:World},Sl aU w M A m c x.l->
 CB 17 #[.agg #[.int .i64 x.kind,.string x.name,.int .i64 x.n,.int .i64 x.d,.slice A m c],.int .i64 k,.int .i64 n] (.bool (aah k n x)) w:=by
 intro x
 induction x using iY with
 |_ x ih=>
 intro M A m c w hs;refine wid ?_;have hsm:=hs.small;have HM:=Hd hs.len;have HX:=Hd (aaJ k n x);obtain⟨l,hxl⟩:=aC x.l;rw[hxl]at hs HM HX ih;have IH:=Hd ih;have H:=Hd hs;obtain⟨X,hX⟩:=aC (aah k n x);rw[hX]at HX;obtain⟨kd,hkd⟩:=aC x.kind;obtain⟨nm,hnm⟩:=aC x.name;obtain⟨xn,hxn⟩:=aC x.n;obtain⟨xd,hxd⟩:=aC x.d;rw[hkd,hxn]at HX;rw[hkd,hnm,hxn,hxd,hX];have Un:=Hd (show aal k n (l.drop 0)=aal k n l by simp);clear hs ih hxl hX hkd hnm hxn hxd;obtain⟨W1,hW1,F1⟩:=dR ((Fr.nil w).a w.heap.size [.int .i64 kd,.string nm,.int .i64 xn,.int .i64 xd,.slice A m c] 48);refine op1 F1 ?_;intros;have F:=Hd F1;clear F1;refine ent func17 rfl ntmps17 ?_;gi_wp2;gi_loopw[12] (fun i wr=>∃k':Nat,k'<=m/\i=.int .i64 k'/\Hid (aal k n (l.drop k')=aal k n l)/\Hid (Fr w wr [(w.heap.size, [.int .i64 kd,.string nm,.int .i64 xn,.int .i64 xd,.slice A m c])])) (fun i _=>m-(intOf i).toNat);case atStart=>exact⟨0,Nat.zero_le _,rfl,Un,F⟩
 case round=>
  obtain⟨k',hk,rfl,hS,hF⟩:=hrel;have hFo:=hF.out;refine op1 hFo ?_;intros;clear hFo;by_cases hlt:k'<m
  ·obtain⟨y,hy⟩:=dW l k' (by rw[HM.out];exact hlt);obtain⟨b,o,B,n',d',rfl,⟨h0,h1,h2,h3,h4⟩,-,hys⟩:=(H.out.go hF.out.bl).qQ hy;obtain⟨V,hV,hbV,FV⟩:=fP (w:=wr) (hF.out.a wr.heap.size [.int .i64 y.kind,.string y.name,.int .i64 y.n,.int .i64 y.d,.slice B n' d'] 48);have g:=aW FV;obtain⟨Y,hY⟩:=aC (aah k n y);have HC:=Hd (IH.out y (List.mem_of_getElem? hy) (hys.go hbV));have HS:=Hd (show(Y||aal k n (l.drop (k'+1)))=aal k n l by rw[<-hY,<-aaA hy,hS.out]);have HFV:=Hd FV;rw[hY]at HC;clear hy hY hys FV;cases Y
   all_goals
    gi_wp2_with (first
     |(refine Cl 17 HC.out ?_;rintro e w2 ⟨rfl,hb2⟩;have F2:=Hd ((HFV.out.go hb2).hd);clear hb2)
     |fail)
   ·exact⟨⟨k'+1,by omega,by go_num,HS,F2⟩,by simp[intOf];omega⟩
   go_ret;have h:=HX.out;have h2:=HS.out;exact⟨by rw[h,<-h2];simp,F2.out.bl⟩
  ·have hkm:k'=m:=by omega
   clear hk hlt;subst hkm;have hN:aal k n l=false:=by rw[<-hS.out,List.drop_of_length_le (by rw[HM.out];exact Nat.le_refl _)];rfl
   have Zy:=Hd (show X=(decide (kd=k)&&decide (xn=n)) by rw[HX.out,hN,Bool.or_false]);clear hN;by_cases e1:kd=k
   ·subst e1;by_cases e2:xn=n;·subst e2;gi_wp2;go_ret;exact⟨by rw[Zy.out];simp,hF.out.bl⟩
    gi_wp2;go_ret;exact⟨by rw[Zy.out];simp[e2],hF.out.bl⟩
   gi_wp2;go_ret;exact⟨by rw[Zy.out];simp[e1],hF.out.bl⟩
end
section
open Go.RowKit
structure VbR(α:Type) [kJ α] (e:TypeId)(M:List Nat)(w u:World)(L:List (Nat×List Value))(bl j:Nat)(C:Value->List Value)(v:Value)(xs:List α)(wr:World):Prop where
 own:bD α e wr (bl::M) u.heap.size v xs.length xs
 fr:Fr w wr (L++ [(bl,C v)])
 sz:u.heap.size<=wr.heap.size
 wu:w.heap.size<=u.heap.size
 bM:b_ M w
 hL:∀b vs,(b,vs)∈L->b<u.heap.size/\b≠bl
 hb:bl<u.heap.size
 hC:∀v,(C v)[j]?=some v
 hS:∀v v',(C v).set j v'=C v'
 kp:Keeps [bl] u wr
section
variable {α:Type} [kJ α] {e:TypeId}{M:List Nat}{w u wr wz:World}{L:List (Nat×List Value)}{bl j:Nat}{C:Value→List Value}{v:Value}{xs:List α}
theorem VbR.go(h:VbR α e M w u L bl j C v xs wr)(hb:Below wr.heap.size wr wz):VbR α e M w u L bl j C v xs wz:=⟨h.own.go hb,h.fr.go hb,Nat.le_trans h.sz hb.size,h.wu,h.bM,h.hL,h.hb,h.hC,h.hS,h.kp.trans (Keeps.of_below hb _)⟩
theorem VbR.nil(h:Fr w u (L++ [(bl,C (.slice none 0 0))]))(hL:∀b vs,(b,vs)∈L->b≠bl)(hM:b_ M w)(hC:∀v,(C v)[j]?=some v)(hS:∀v v',(C v).set j v'=C v'):VbR α e M w u L bl j C (.slice none 0 0) [] u:=⟨bD.nil _ _ _,h,Nat.le_refl _,h.bl.size,hM,fun b vs hm=>⟨h.lt b vs (by simp[hm]),hL b vs hm⟩,h.lt bl (C (.slice none 0 0)) (by simp),hC,hS,Keeps.refl _ _⟩
theorem VbR.bel(h:VbR α e M w u L bl j C v xs wr):b_ (bP v++bl::M) wr:=fun q hq=>by
 rcases List.mem_append.1 hq with hq|hq;·exact(h.own.lt (bJ.1 hq)).2
 rcases List.mem_cons.1 hq with rfl|hq;·exact Nat.lt_of_lt_of_le h.hb h.sz
 exact Nat.lt_of_lt_of_le (h.bM q hq) (Nat.le_trans h.wu h.sz)
theorem VbR.ge(h:VbR α e M w u L bl j C v xs wr):∀q,q∈bP v++ [bl]->w.heap.size<=q:=fun q hq=>by
 rcases List.mem_append.1 hq with hq|hq;·have:=(h.own.lt (bJ.1 hq)).1;exact Nat.le_trans h.wu this
 rw[List.mem_singleton]at hq;subst hq;exact h.fr.ge _ (C v) (by simp)
theorem VbR.no(h:VbR α e M w u L bl j C v xs wr):∀q,q<u.heap.size->q∉bP v:=fun q hq hm=>by have:=(h.own.lt (bJ.1 hm)).1;omega
theorem VbR.app{t:TypeId}(h:VbR α e M w u L bl j C v xs wr){x:α}{cs:List Value}(ht:prog.underlying t=some (.slice e))(hi:iU e (Rep.sz α))(hx:Rep.rd wr (bP v++bl::M) x cs)(hn:xs.length<=1000):
 ∃v' w',(Builtin.append_ #[t,t] t #[v,.slice (some ⟨wr.heap.size,0,none⟩) 1 1]).run prog (wr.alloc (.cells cs.toArray e))=.ok v' w'/\w'.cell? ⟨bl,j,none⟩=some v/\w'.frozen? ⟨bl,j,none⟩=false/\VbR α e M w u L bl j C v' (xs++ [x]) (w'.setCell ⟨bl,j,none⟩ v')/\Keeps (bP v) (wr.alloc (.cells cs.toArray e)) w':=by
 obtain⟨v',w',r1,r2,r3,r4,r5⟩:=h.own.app1 ht hi h.sz (fun q hq=>h.bel q (List.mem_append_right _ hq)) hx (by omega);have hf:=h.fr.ZI r3 (fun g hg=>⟨Nat.le_trans h.wu (h.own.lt hg).1,fun b vs hm e=>by
  have h1:=(h.own.lt hg).1;rcases List.mem_append.1 hm with hm|hm;·have:=(h.hL b vs hm).1;omega
  simp only[List.mem_singleton,Prod.mk.injEq]at hm;have:=h.hb;omega⟩)
 have hc:=hf.at_ bl (C v) (by simp) j v (h.hC v);have hbo:∀g,v'.ownBlock=some g->g∉ [bl]:=fun g hg hm=>by have h1:=(r2.lt hg).1;simp only[List.mem_singleton]at hm;have:=h.hb;omega
 have kp:Keeps [bl] w' (w'.setCell ⟨bl,j,none⟩ v'):=(Keeps.refl [bl] w').setCell (p:=⟨bl,j,none⟩) (.inl (by simp)) _;have hsz:wr.heap.size<=w'.heap.size:=r3.size;refine⟨v',w',r1,hc.1,hc.2,⟨?_,?_,Nat.le_trans h.sz (Nat.le_trans hsz kp.size),h.wu,h.bM,h.hL,h.hb,h.hC,h.hS,(h.kp.grown r3 fun g hg=>.inr (h.own.lt hg).1).setCell (p:=⟨bl,j,none⟩) (.inl (by simp)) _⟩,r5⟩;·have:=r2.keepN kp (fun x hx=>by simp at hx;simp[hx]) hbo;simpa using this
 ·have:=hf.qY (fun c vs hm=>(h.hL c vs hm).2) (h.hC v) v'
  rwa [h.hS]at this
theorem VbR.put(h:VbR α e M w u L bl j C v xs wr){k:Nat}(hk:k<xs.length):∃g cap,v=.slice (some ⟨g,0,none⟩) xs.length cap/\g∉bl::M/\u.heap.size<=g/\
 (∀i,i<Rep.sz α->∃u0,wr.cell? ⟨g,k*Rep.sz α+i,none⟩=some u0/\wr.frozen? ⟨g,k*Rep.sz α+i,none⟩=false)/\
 ∀{x:α}{us:List Value}{w':World},Rep.rd wr (g::bl::M) x us->fM wr g (k*Rep.sz α) us=w'->VbR α e M w u L bl j C v (xs.set k x) w':=by
 obtain⟨g,cap,rfl⟩:=qA h.own (by omega);obtain⟨h1,h2⟩:=h.own.lt (k:=g) rfl;have hg:g∉bl::M:=fun hm=>by
  rcases List.mem_cons.1 hm with rfl|hm;·have:=h.hb;omega
  have:=h.bM g hm;have:=h.wu;omega
 refine⟨g,cap,rfl,hg,h1,fun i hi=>?_,fun hx hw=>?_⟩;·obtain⟨es,a,b⟩:=h.own.get (List.getElem?_eq_getElem hk);have hl:=Rep.len a;have:=b i (es[i]'(by omega)) (List.getElem?_eq_getElem _);exact⟨_,this.1,this.2⟩
 ·obtain⟨a,b⟩:=h.own.setN hk hx hw;have kb:KB g wr _:=⟨b,by rw[<-hw];exact lq (Nat.le_refl g) _ _ (Below.refl _ _)⟩;refine⟨by rw[List.length_set];exact a,h.fr.kb kb (Nat.le_trans h.wu h1) (fun c vs hm=>?_),Nat.le_trans h.sz b.size,h.wu,h.bM,h.hL,h.hb,h.hC,h.hS,⟨Nat.le_trans h.kp.size b.size,fun q hq hm=>(b.block q (Nat.lt_of_lt_of_le hq h.sz) (by rw[List.mem_singleton];omega)).trans (h.kp.block q hq hm)⟩⟩;rcases List.mem_append.1 hm with hm|hm;·have:=(h.hL c vs hm).1;omega
  simp only[List.mem_singleton,Prod.mk.injEq]at hm;have:=h.hb;omega
theorem VbR.sl(h:VbR α e M w u L bl j C v xs wr)(hn:xs.length<=1000):∃A c,v=.slice A xs.length c/\Sl α wr (bl::M) A xs.length c xs:=h.own.sl (by omega) (fun k hk=>by
 rcases List.mem_cons.1 hk with rfl|hk;·exact h.hb
 exact Nat.lt_of_lt_of_le (h.bM k hk) h.wu)
end
open Go.Shelf
attribute [local go_sem] Oper.semAt_some
theorem aaE:(prog.info? 26).map (fun i=>(i.zero,i.size,i.bytes))=some (some (.slice none 0 0),1,24):=by kernel_rfl
theorem aaz:iU 26 (Rep.sz (List Int)):=iU.mk' aaE rfl (by omega)
def OnR(α:Type) [kJ α] (e:TypeId)(w u:World)(L:List (Nat×List Value))(bl j:Nat)(C:Value->List Value)(F:Nat->List α)(n:Nat)(i:Value)(wr:World):Prop:=∃(k:Nat) (v:Value),k<=n/\i=.int .i64 k/\Hid (VbR α e [] w u L bl j C v (F k) wr)
attribute [irreducible] OnR
theorem aaw{α:Type}(xs:List α)(x y:α){k:Nat}(h:xs.length=k):(xs++ [x]).set k y=xs++ [y]:=by subst h;simp
section
variable {r:aS}{s1 s2 s3 s4 s5 s6 s7:dK}{c o:dS}{t1 t2 t3 t4 u1 u2 u3 u4:dK}{w:World}{x:aJ}{i:Nat}
set_option maxHeartbeats 16000000 in
theorem aan{i:Int}(hr:dG w [] r s1 s2 s3 s4 s5 s6 s7)(hc:jE w [] c t1 t2 t3 t4)(ho:jE w [] o u1 u2 u3 u4)(ht:Tab w):
 CB 5 #[.agg (aV r s1 s2 s3 s4 s5 s6 s7).toArray,.int .i64 i,.agg (dI t1 t2 t3 t4).toArray,.agg (dI u1 u2 u3 u4).toArray] (.bool true) w:=by
 refine wid ?_;obtain⟨W1,hW1,F1⟩:=dR ((((Fr.nil w).a w.heap.size (aV r s1 s2 s3 s4 s5 s6 s7) 28).a (w.heap.size+1) (dI t1 t2 t3 t4) 32).a (w.heap.size+2) (dI u1 u2 u3 u4) 32);have o1:=aW F1;have F:=Hd F1;have H:=h_ hr hc ho ht;clear F1 hr hc ho ht;refine ent func5 rfl ntmps5 ?_
 gi_wp2_with (first
  |(refine Cl 7 (EI (tab_below H.out.2.2.2 F.out.bl)) ?_;rintro e w2 ⟨rfl,hb2⟩;replace F:=Hd (F.out.go hb2);clear hb2)
  |fail)
 replace F:=Hd F.out.drew;have qq0:=aay F.out;refine ak [] (List.range 26++27::26::List.range' 28 12) (by kernel_rfl) (by kernel_rfl) ?_
 (refine eH ?_;refine aH fun K hK=>aA rfl rfl wy fun K' hK'=>?_;gi_wp2;have X:=zH (H.out.1.go F.out.bl) (H.out.2.1.go F.out.bl);refine Cl 8 X ?_;clear X;rintro e w3 hw;obtain⟨b,rfl,hb,hb2⟩:=hw.of;replace F:=Hd (F.out.go hb2);refine hK' _ _ ⟨?_,hK _ _ ?_⟩;·exact Keeps.of_below hb2 _
  clear hK' K' hK K;have HB1:=Hd hb;clear hb2 hw hb;refine lit ?_;have qq1:=aay F.out;cases b;·(refine eH ?_;refine aK ?_;refine lit ?_;gi_wp2;go_ret;exact⟨rfl,F.out.bl⟩)
  replace HB1:=Hd (HB1.out rfl))
 (refine eH ?_;refine aH fun K hK=>aA rfl rfl wy fun K' hK'=>?_;gi_wp2;have X:=zH (H.out.1.go F.out.bl) (H.out.2.2.1.go F.out.bl);refine Cl 8 X ?_;clear X;rintro e w3 hw;obtain⟨b,rfl,hb,hb2⟩:=hw.of;replace F:=Hd (F.out.go hb2);refine hK' _ _ ⟨?_,hK _ _ ?_⟩;·exact Keeps.of_below hb2 _
  clear hK' K' hK K;have HB2:=Hd hb;clear hb2 hw hb;refine lit ?_;have qq2:=aay F.out;cases b;·(refine eH ?_;refine aK ?_;refine lit ?_;gi_wp2;go_ret;exact⟨rfl,F.out.bl⟩)
  replace HB2:=Hd (HB2.out rfl))
 (refine eH ?_;refine aH fun K hK=>aA rfl rfl wy fun K' hK'=>?_;gi_wp2;have X:=tY (i:=i) (H.out.1.go F.out.bl) (H.out.2.1.go F.out.bl) HB1.out.fw.1 (b_.nil _);refine Cl 9 X ?_;clear X;rintro e w3 hw;obtain⟨kc,rfl,hb,hb2⟩:=hw.of;replace F:=Hd (F.out.go hb2);refine hK' _ _ ⟨?_,hK _ _ ?_⟩;·exact Keeps.of_below hb2 _
  clear hK' K' hK K;have HB3:=Hd hb;clear hb2 hw hb;refine lit ?_;have qq3:=aay F.out;rcases MO kc with rfl|hkb;rotate_left;·(refine eH ?_;refine aK ?_;refine lit ?_;gi_wp2;go_ret;exact⟨rfl,F.out.bl⟩)
  replace HB3:=Hd (HB3.out rfl))
 (refine eH ?_;refine aH fun K hK=>aA rfl rfl wy fun K' hK'=>?_;gi_wp2;have X:=tY (i:=i) (H.out.1.go F.out.bl) (H.out.2.2.1.go F.out.bl) HB1.out.fw.1 (b_.nil _);refine Cl 9 X ?_;clear X;rintro e w3 hw;obtain⟨kc,rfl,hb,hb2⟩:=hw.of;replace F:=Hd (F.out.go hb2);refine hK' _ _ ⟨?_,hK _ _ ?_⟩;·exact Keeps.of_below hb2 _
  clear hK' K' hK K;have HB4:=Hd hb;clear hb2 hw hb;refine lit ?_;have qq4:=aay F.out;rcases MO kc with rfl|hkb;rotate_left;·(refine eH ?_;refine aK ?_;refine lit ?_;gi_wp2;go_ret;exact⟨rfl,F.out.bl⟩)
  replace HB4:=Hd (HB4.out rfl))
 have HW:=Hd2 HB1.out HB2.out;obtain⟨N1,hN1⟩:=aC (eY c.marks);obtain⟨N2,hN2⟩:=aC (eY o.marks);have hle1:N1<=1400:=by have h1:=Xh HB1.out.mark;have h2:=HB1.out.lens.1;rw[hN1]at h1;omega
 have hle2:N2<=1400:=by have h1:=Xh HB2.out.mark;have h2:=HB2.out.lens.1;rw[hN2]at h1;omega
 obtain⟨N3,hN3⟩:=aC (N1+N2);have hwr:IntKind.i64.wrap ((N1:Int)+(N2:Int))=(N3:Int):=by rw[IntKind.wrap_i64];omega
 have HE:=fB hN1 hN2 hN3;clear hN1 hN2 hle1 hle2 hN3
 (refine eH ?_;refine aH fun K hK=>aA rfl rfl wy fun K' hK'=>?_;gi_wp2;have X:=z_ (H.out.2.1.go F.out.bl) HB1.out.lens.1 HB1.out.mark;rw[HE.out.1]at X;refine Cl 12 X ?_;clear X;rintro e w3 ⟨rfl,hb2⟩;replace F:=Hd (F.out.go hb2);refine hK' _ _ ⟨?_,hK _ _ ?_⟩;·exact Keeps.of_below hb2 _
  clear hK' K' hK K;clear hb2;refine lit ?_;have qq5:=aay F.out)
 (refine eH ?_;refine aH fun K hK=>aA rfl rfl wy fun K' hK'=>?_;gi_wp2;have X:=z_ (H.out.2.2.1.go F.out.bl) HB2.out.lens.1 HB2.out.mark;rw[HE.out.2.1]at X;refine Cl 12 X ?_;clear X;rintro e w3 ⟨rfl,hb2⟩;replace F:=Hd (F.out.go hb2);refine hK' _ _ ⟨?_,hK _ _ ?_⟩;·exact Keeps.of_below hb2 _
  clear hK' K' hK K;clear hb2;refine lit ?_;have qq6:=aay F.out)
 by_cases hgn:0<N3
 ·have hgt:((N3:Nat):Int)>0:=by omega
  (refine eH ?_;refine aK ?_;refine lit ?_;gi_wp2;go_ret;exact⟨rfl,F.out.bl⟩)
 have hN:eY c.marks=0/\eY o.marks=0:=by have h1:=HE.out.1;have h2:=HE.out.2.1;have h3:=HE.out.2.2;omega
 have HN:=Hd hN;obtain rfl:N3=0:=by omega
 replace hwr:IntKind.i64.wrap ((N1:Int)+(N2:Int))=0:=hwr;have HG0:=HB3.out;obtain⟨-,i,x,rfl,hx,-⟩:=id HG0;have HG:=Hd2 HB3.out HB4.out;have hgc:=HG.out.1;have hgo:=HG.out.2;obtain⟨A5,q5,c5⟩:=s5;obtain⟨B1,p1,d1⟩:=t1;obtain⟨B2,p2,d2⟩:=t2;obtain⟨B3,p3,d3⟩:=t3;obtain⟨B4,p4,d4⟩:=t4;obtain⟨D1,n1,e1⟩:=u1;obtain⟨D2,n2,e2⟩:=u2;obtain⟨D3,n3,e3⟩:=u3;obtain⟨D4,n4,e4⟩:=u4;have h5:Sl aJ w [] A5 q5 c5 r.rounds:=H.out.1.rounds;have m1:Sl (List Int) w [] B1 p1 d1 c.marks:=H.out.2.1.marks;have m4:Sl fC w [] B4 p4 d4 c.prev:=H.out.2.1.prev;have k1:Sl (List Int) w [] D1 n1 e1 o.marks:=H.out.2.2.1.marks;have k4:Sl fC w [] D4 n4 e4 o.prev:=H.out.2.2.1.prev;have hi5:i<q5:=by rw[<-h5.len];exact(List.getElem?_eq_some_iff.1 hx).1
 have JC:=h5.small;have YZ:=m1.small;have hsm4:=m4.small;obtain⟨b5,o5,Ae,me,ce,Zm,⟨-,-,-,-,z4,-⟩,⟨z6,z7,z8,z9,z10⟩,-,-,-,hse⟩:=h5.iw hx;subst Zm;obtain⟨l1,l4⟩:=aag hgc hgo;have hL:=oK m1.len m4.len k1.len k4.len (wK hgc).1;have aaF:b5<w.heap.size:=World.block_lt_of_cell? w _ z4;obtain⟨P,hP⟩:=aC x.2.2.2.2.1;rw[hP]at z4;have HV:=Hd (fun hp=>aaI (o:=o) hx hp hgc hgo);have HZ:=Hd (And.intro z4 (And.intro z6 (And.intro z7 (And.intro z8 (And.intro z9 (And.intro z10 hse))))));have HM:=h_ m1 m4 k1 k4;obtain⟨kd,hkd⟩:=aC (au x).kind;obtain⟨nm,hnm⟩:=aC (au x).name;obtain⟨xn,hxn⟩:=aC (au x).n;obtain⟨xd,hxd⟩:=aC (au x).d;have Gz:=Hd (fun k n (V:World) (h:Below w.heap.size w V)=>aat k n (au x) (hse.go h));rw[hkd,hnm,hxn,hxd]at Gz HZ;have HX:=Hd2 hx hP;clear HG0 hgc hgo hx h5 m1 m4 k1 k4 z4 z6 z7 z8 z9 z10 hse hkd hnm hxn hxd hP hN;have y4:=stays ((F.out.bl.cell (p:=⟨b5,_,none⟩) aaF).trans HZ.out.1);have y6:=(F.out.bl.cell (p:=⟨b5,_,none⟩) aaF).trans HZ.out.2.1;have y7:=(F.out.bl.cell (p:=⟨b5,_,none⟩) aaF).trans HZ.out.2.2.1;have y8:=(F.out.bl.cell (p:=⟨b5,_,none⟩) aaF).trans HZ.out.2.2.2.1;have y9:=(F.out.bl.cell (p:=⟨b5,_,none⟩) aaF).trans HZ.out.2.2.2.2.1;have Qu:=(F.out.bl.cell (p:=⟨b5,_,none⟩) aaF).trans HZ.out.2.2.2.2.2.1;have o3:=aW F.out;cases P;rotate_left;·(refine eH ?_;refine aK ?_;refine lit ?_;gi_wp2;go_ret;exact⟨rfl,F.out.bl⟩)
 have hsz3:w.heap.size+2<w3.heap.size:=F.out.mJ 2;obtain⟨W6,X0,F6⟩:=dR (F.out.a w3.heap.size [.int .i64 kd,.string nm,.int .i64 xn,.int .i64 xd,.slice Ae me ce] 48);have o6:=aW F6;have hs6:w3.heap.size<W6.heap.size:=F6.mJ 3;obtain⟨W7,XM,F7⟩:=dR (F6.a W6.heap.size [.slice none 0 0,.slice B2 p2 d2,.slice B3 p3 d3,.slice none 0 0] 32);have o7:=aW F7;have pn:=aN (F7.aQ 4 3);obtain⟨L,hL'⟩:∃L:List (Nat×List Value), [(w.heap.size,aV r s1 s2 s3 s4 ⟨some ⟨b5,o5,none⟩,q5,c5⟩ s6 s7),(w.heap.size+1,dI ⟨B1,p1,d1⟩ ⟨B2,p2,d2⟩ ⟨B3,p3,d3⟩ ⟨B4,p4,d4⟩),(w.heap.size+2,dI ⟨D1,n1,e1⟩ ⟨D2,n2,e2⟩ ⟨D3,n3,e3⟩ ⟨D4,n4,e4⟩),(w3.heap.size, [.int .i64 kd,.string nm,.int .i64 xn,.int .i64 xd,.slice Ae me ce])]=L:=⟨_,rfl⟩;have HLL:=Hd (show ∀V cs,Fr w V (L++ [(W6.heap.size,cs)])->Fr w V [(w.heap.size,aV r s1 s2 s3 s4 ⟨some ⟨b5,o5,none⟩,q5,c5⟩ s6 s7),(w.heap.size+1,dI ⟨B1,p1,d1⟩ ⟨B2,p2,d2⟩ ⟨B3,p3,d3⟩ ⟨B4,p4,d4⟩),(w.heap.size+2,dI ⟨D1,n1,e1⟩ ⟨D2,n2,e2⟩ ⟨D3,n3,e3⟩ ⟨D4,n4,e4⟩),(w3.heap.size, [.int .i64 kd,.string nm,.int .i64 xn,.int .i64 xd,.slice Ae me ce]),(W6.heap.size,cs)]from fun V cs h=>by rw[<-hL']at h;exact h);have R0:=Hd (show VbR (List Int) 26 [] w W7 L W6.heap.size 0 (fun v=> [v,.slice B2 p2 d2,.slice B3 p3 d3,.slice none 0 0]) (.slice none 0 0) [] W7 from VbR.nil (by rw[<-hL'];exact F7) (fun b vs hm=>by rw[<-hL']at hm;simp at hm;omega) (b_.nil _) (fun _=>rfl) (fun _ _=>rfl));have HLN:=Hd (show ∀b vs,(b,vs)∈L->b≠W6.heap.size from fun b vs hm=>by rw[<-hL']at hm;simp at hm;omega);have HP1:=Hd (show ∀k,k<=p1->(aae (pM 2 (au x)) c.marks o.marks k).length=k from fun k hk=>(aad l1 (by have:=hL.out.1;omega)).1);have HP4:=Hd (show ∀k,k<=p4->(aae (pM 5 (au x)) c.prev o.prev k).length=k from fun k hk=>(aad l4 (by have:=hL.out.2.1;omega)).1);have aaO:p1<=70:=by have h1:=HW.out.1.lens.1;have h2:=hL.out.1;omega
 have aaP:p4<=10:=by have h1:=HW.out.1.lens.2.2.2;have h2:=hL.out.2.1;omega
 clear F6 F7 o1 qq0 qq1 qq2 qq3 qq4 hL';refine eH ?_;refine aK ?_;refine lit ?_;gi_wp2;clear qq5 qq6 y4 y6 y7 y8 y9 Qu o3 o6 o7 X0 XM hW1 pn;gi_loopw[73] (fun i wr=>OnR (List Int) 26 w W7 L W6.heap.size 0 (fun v=> [v,.slice B2 p2 d2,.slice B3 p3 d3,.slice none 0 0]) (aae (pM 2 (au x)) c.marks o.marks) p1 i wr) (fun i _=>p1-(intOf i).toNat);case atStart=>unfold OnR;exact⟨0,_,Nat.zero_le _,rfl,R0⟩
 case round=>
  unfold OnR at hrel;obtain⟨k,v,hk,rfl,hR⟩:=hrel;by_cases hlt:k<p1
  ·obtain⟨x1,hx1⟩:=dW c.marks k (by have:=hL.out.1;omega);obtain⟨x2,hx2⟩:=dW o.marks k (by have:=hL.out.1;omega);obtain⟨b1,o1,A1,n1',c1',hA1,g1,gs1⟩:=HM.out.1.tX hx1;obtain⟨b2,o2,A2,n2',c2',hA2,g2,gs2⟩:=HM.out.2.2.1.tX hx2;subst hA1;subst hA2;have hb1:=World.block_lt_of_cell? w _ g1;have hb2':=World.block_lt_of_cell? w _ g2;have hst:=aas (p:=pM 2 (au x)) hx1 hx2;have hnot:=hR.out.no;obtain⟨wd,hwd⟩:=aC wr.drew;have hbd:Below wr.heap.size wr wd:=by rw[<-hwd];exact(Below.refl _ _).drew
   have HRD:=Hd (hR.out.go hbd);have hfo:=HLL.out _ _ hR.out.fr;have hb7:W6.heap.size<W7.heap.size:=hR.out.hb;have x0:=aF (hnot _ hb7) (hfo.aQ 4 0);have x1c:=aF (hnot (w.heap.size+1) (by omega)) (hfo.aQ 1 0);have y1:=aF (hnot b1 (Nat.lt_trans hb1 (by omega))) ((hfo.bl.cell (p:=⟨b1,_,none⟩) hb1).trans g1);have hlen:=HP1.out k hk;have hsl1:Sl Int wd (bP v++ [W6.heap.size]) A1 n1' c1' x1:=by
    have:=(gs1.moreL (bP v++ [W6.heap.size]) hR.out.ge).go HRD.out.fr.bl
    rwa [List.append_nil]at this
   obtain⟨v',w',r1,k1,k2,R1,kA⟩:=HRD.out.app (t:=29) underlying29 aaz ⟨A1,n1',c1',rfl,hsl1⟩ (by omega);obtain⟨wq,hwq⟩:=aC (w'.setCell ⟨W6.heap.size,0,none⟩ v');rw[hwq]at R1;have hl2:(aae (pM 2 (au x)) c.marks o.marks k++ [x1]).length=k+1:=by rw[List.length_append,hlen];rfl
   obtain⟨g,cap,hv',-⟩:=R1.put (k:=k) (by omega);rw[hl2]at hv';subst hv';have hfq:=HLL.out _ _ R1.fr;have oq:=aW hfq;have HC:=Hd (Gz.out 2 (k:Int) wq hfq.bl);obtain⟨Y,hY⟩:=aC (pM 2 (au x) k);rw[show aah 2 (k:Int) (au x)=Y from hY]at HC;have HST:=h_ (show aae (pM 2 (au x)) c.marks o.marks (k+1)=aae (pM 2 (au x)) c.marks o.marks k++ [if Y=true then x1 else x2] by rw[hst,hY]) hl2 hlen gs2;have HA:=Hd2 r1 kA;have HR1:=Hd R1;have yT:=Hd hwd;clear hx1 hx2 hst hnot hbd hfo hsl1 r1 kA R1 hl2 hfq hY gs1 gs2 hlen hwd;gi_wp2;refine aP (bP v) 9 (by kernel_rfl) (by kernel_rfl) ?_;refine ay 0 ?_;refine ay 1 ?_;refine ay 2 ?_;refine ay 3 ?_;refine ay 4 ?_;refine ay 5 ?_;refine ay 6 ?_;rw[yT.out];refine eU 7 fun K hK=>?_;gi_wp2;refine⟨(Keeps.refl _ _).alloc _,?_⟩;refine lit ?_;refine oQ 8 [] (by kernel_rfl) (dN (by decide) rfl ?_ (fun K hK=>?_) gU);·exact wy
   refine aI _ _ _ rfl rfl rfl HA.out.1 (hK _ _ ⟨HA.out.2,?_⟩);clear hK K;refine lit ?_;refine iq 2 ?_;refine jW fun K hK K' hK'=>?_;gi_wp2;refine jW fun K hK K' hK'=>?_;gi_wp2;refine tail_nil _ ?_;simp only[cu];gi_wp2;refine Cl 17 HC.out ?_;rintro e w6' ⟨rfl,hb6⟩;have R2:=HR1.out.go hb6;clear hb6 k1 k2 hwq x0 x1c y1 oq;cases Y
   ·have hf6:=HLL.out _ _ R2.fr;have R3:=R2.go (Below.refl w6'.heap.size w6').drew;obtain⟨g',cap',hv2,-,-,hcell,hput⟩:=R3.put (k:=k) (by have:=HST.out.2.1;omega);rw[HST.out.2.1]at hv2;cases hv2;obtain⟨u0,hu0,hf0⟩:=hcell 0 (by decide);have ek:k*Rep.sz (List Int)+0=k:=Nat.mul_one k;rw[ek]at hu0 hf0;have a0:=ah (hf6.aQ 4 0);have a1:=ah (hf6.aQ 2 0);have a2:=ah ((hf6.bl.cell (p:=⟨b2,_,none⟩) hb2').trans g2);have HR4:=Hd (hput (x:=x2) (us:= [.slice A2 n2' c2']) ⟨A2,n2',c2',rfl,by
     have:=(HST.out.2.2.2.moreL [g,W6.heap.size] (fun q hq=>R3.ge q (by
      rcases List.mem_cons.1 hq with rfl|hq;·exact List.mem_append_left _ (bJ.2 rfl)
      exact List.mem_append_right _ hq))).go R3.fr.bl
     rwa [List.append_nil]at this⟩ rfl)
    rw[aaw _ _ _ HST.out.2.2.1,show fM w6'.drew g (k*Rep.sz (List Int)) [.slice A2 n2' c2']=w6'.drew.setCell ⟨g,k,none⟩ (.slice A2 n2' c2')from by show w6'.drew.setCell ⟨g,k*1,none⟩ _=_;rw[Nat.mul_one]]at HR4;have o6:=aW hf6;have hkn:k<n1:=by have h1:=hL.out.1;have h2:=hL.out.2.2.1;omega
    have hk1:(k:Int)<(k:Int)+1:=by omega
    clear R2 R3 hf6 hcell hput ek;gi_wp2;refine aP [] 9 (by kernel_rfl) (by kernel_rfl) ?_;refine ay 0 ?_;refine ay 1 ?_;refine ay 2 ?_;refine ay 3 ?_;refine ay 4 ?_;refine ay 5 ?_;refine ay 6 ?_;refine ay 7 ?_;refine ay 8 ?_;refine iq 1 ?_;refine jW fun K hK K' hK'=>?_;gi_wp2;refine tail_nil _ ?_;simp only[cu];gi_wp2;exact⟨by unfold OnR;exact⟨k+1,_,by omega,by go_num,Hd (by rw[HST.out.1];exact HR4.out)⟩,by simp[intOf];omega⟩
   have o6:=aW (HLL.out _ _ R2.fr);have HR4:=Hd R2;clear R2;gi_wp2;exact⟨by unfold OnR;exact⟨k+1,_,by omega,by go_num,Hd (by rw[HST.out.1];exact HR4.out)⟩,by simp[intOf];omega⟩
  ·have hkm:k=p1:=by omega
   clear hk hlt;subst hkm;obtain⟨A7,cM,hvM,aaK⟩:=hR.out.sl (by rw[HP1.out k (Nat.le_refl _)];omega);rw[HP1.out k (Nat.le_refl _)]at hvM aaK;subst hvM;obtain⟨wm,rfl⟩:∃V,V=wr:=⟨_,rfl⟩;have o7:=aW (HLL.out _ _ hR.out.fr);have R0:=Hd (show VbR fC 42 [] w wm L W6.heap.size 3 (fun v=> [.slice A7 k cM,.slice B2 p2 d2,.slice B3 p3 d3,v]) (.slice none 0 0) [] wm from VbR.nil hR.out.fr HLN.out (b_.nil _) (fun _=>rfl) (fun _ _=>rfl));have HMD:=Hd (show Sl (List Int) wm [W6.heap.size] A7 k cM (aaf (au x) c o).marks by show Sl _ _ _ _ _ _ (aae _ _ _ c.marks.length);rw[hL.out.1];exact aaK);have hwm:W6.heap.size<wm.heap.size:=R0.out.hb;clear hR aaK;gi_wp2;clear o7;gi_loopw[103] (fun i wz=>OnR fC 42 w wm L W6.heap.size 3 (fun v=> [.slice A7 k cM,.slice B2 p2 d2,.slice B3 p3 d3,v]) (aae (pM 5 (au x)) c.prev o.prev) p4 i wz) (fun i _=>p4-(intOf i).toNat);case atStart=>unfold OnR;exact⟨0,_,Nat.zero_le _,rfl,R0⟩
   case round=>
    unfold OnR at hrel;obtain⟨t,v,ht,rfl,hR⟩:=hrel;by_cases hlt:t<p4
    ·obtain⟨x1,hx1⟩:=dW c.prev t (by have:=hL.out.2.1;omega);obtain⟨x2,hx2⟩:=dW o.prev t (by have:=hL.out.2.1;omega);obtain⟨b1,o1,A1,n1',c1',A1',m1',e1',hA1,g0,g1,g2,g3,gs1,aaM⟩:=HM.out.2.1.MG hx1;obtain⟨b2,o2,A2,n2',c2',A2',m2',e2',hA2,f0,f1,f2,f3,gs2,aaN⟩:=HM.out.2.2.2.MG hx2;subst hA1;subst hA2;have hb1:b1<w.heap.size:=World.block_lt_of_cell? w _ g1;have hb2':b2<w.heap.size:=World.block_lt_of_cell? w _ f1;have hst:=aas (p:=pM 5 (au x)) hx1 hx2;have hnot:=hR.out.no;obtain⟨wd,hwd⟩:=aC wr.drew;have hbd:Below wr.heap.size wr wd:=by rw[<-hwd];exact(Below.refl _ _).drew
     have HRD:=Hd (hR.out.go hbd);have hfo:=HLL.out _ _ hR.out.fr;have x0:=aF (hnot _ hwm) (hfo.aQ 4 3);have x1c:=aF (hnot (w.heap.size+1) (by omega)) (hfo.aQ 1 3);have y0:=aF (hnot b1 (Nat.lt_trans hb1 (by omega))) ((hfo.bl.cell (p:=⟨b1,_,none⟩) hb1).trans g0);have y1:=aF (hnot b1 (Nat.lt_trans hb1 (by omega))) ((hfo.bl.cell (p:=⟨b1,_,none⟩) hb1).trans g1);have y2:=aF (hnot b1 (Nat.lt_trans hb1 (by omega))) ((hfo.bl.cell (p:=⟨b1,_,none⟩) hb1).trans g2);have y3:=aF (hnot b1 (Nat.lt_trans hb1 (by omega))) ((hfo.bl.cell (p:=⟨b1,_,none⟩) hb1).trans g3);have hlen:=HP4.out t ht;have hrd:Rep.rd wd (bP v++ [W6.heap.size]) x1 [.bool x1.1.1,.slice A1 n1' c1',.bool x1.2.1,.slice A1' m1' e1']:=by have h1:=(gs1.moreL (bP v++ [W6.heap.size]) hR.out.ge).go HRD.out.fr.bl;have h2:=(aaM.moreL (bP v++ [W6.heap.size]) hR.out.ge).go HRD.out.fr.bl;rw[List.append_nil]at h1 h2;exact JB h1 h2
     obtain⟨v',w',r1,k1,k2,R1,kA⟩:=HRD.out.app (t:=30) underlying30 Iq hrd (by omega);obtain⟨wq,hwq⟩:=aC (w'.setCell ⟨W6.heap.size,3,none⟩ v');rw[hwq]at R1;have hl2:(aae (pM 5 (au x)) c.prev o.prev t++ [x1]).length=t+1:=by rw[List.length_append,hlen];rfl
     obtain⟨g,cap,hv',-⟩:=R1.put (k:=t) (by omega);rw[hl2]at hv';subst hv';have hfq:=HLL.out _ _ R1.fr;have oq:=aW hfq;have HC:=Hd (Gz.out 5 (t:Int) wq hfq.bl);obtain⟨Y,hY⟩:=aC (pM 5 (au x) t);rw[show aah 5 (t:Int) (au x)=Y from hY]at HC;have HST:=oK (show aae (pM 5 (au x)) c.prev o.prev (t+1)=aae (pM 5 (au x)) c.prev o.prev t++ [if Y=true then x1 else x2] by rw[hst,hY]) hl2 hlen gs2 aaN;have HA:=Hd2 r1 kA;have HR1:=Hd R1;have yT:=Hd hwd;clear hx1 hx2 hst hnot hbd hfo hrd r1 kA R1 hl2 hfq hY gs1 gs2 aaM aaN hlen hwd g0 g1 g2 g3;gi_wp2;refine aP (bP v) 9 (by kernel_rfl) (by kernel_rfl) ?_;refine ay 0 ?_;refine ay 1 ?_;refine ay 2 ?_;refine ay 3 ?_;refine ay 4 ?_;refine ay 5 ?_;refine ay 6 ?_;rw[yT.out];refine eU 7 fun K hK=>?_;gi_wp2;refine⟨(Keeps.refl _ _).alloc _,?_⟩;refine lit ?_;refine oQ 8 [] (by kernel_rfl) (dN (by decide) rfl ?_ (fun K hK=>?_) gU);·exact wy
     refine aI _ _ _ rfl rfl rfl HA.out.1 (hK _ _ ⟨HA.out.2,?_⟩);clear hK K;refine lit ?_;refine iq 2 ?_;refine jW fun K hK K' hK'=>?_;gi_wp2;refine jW fun K hK K' hK'=>?_;gi_wp2;refine tail_nil _ ?_;simp only[cu];gi_wp2;refine Cl 17 HC.out ?_;rintro e w6' ⟨rfl,hb6⟩;have R2:=HR1.out.go hb6;clear hb6 k1 k2 hwq x0 x1c y0 y1 y2 y3 oq;cases Y
     ·have hf6:=HLL.out _ _ R2.fr;have R3:=R2.go (Below.refl w6'.heap.size w6').drew;obtain⟨g',cap',hv2,-,-,hcell,hput⟩:=R3.put (k:=t) (by have:=HST.out.2.1;omega);rw[HST.out.2.1]at hv2;cases hv2;obtain⟨i0,hu0,hf0⟩:=hcell 0 (by decide);obtain⟨i1,hu1,hf1⟩:=hcell 1 (by decide);obtain⟨i2,hu2,hf2⟩:=hcell 2 (by decide);obtain⟨i3,hu3,hf3⟩:=hcell 3 (by decide);have ek:t*Rep.sz fC=t*4:=rfl;rw[ek]at hu0 hf0 hu1 hf1 hu2 hf2 hu3 hf3;rw[Nat.add_zero]at hu0 hf0;replace hu0:w6'.cell? ⟨g,t*4,none⟩=some i0:=hu0;replace hu1:w6'.cell? ⟨g,t*4+1,none⟩=some i1:=hu1;replace hu2:w6'.cell? ⟨g,t*4+2,none⟩=some i2:=hu2;replace hu3:w6'.cell? ⟨g,t*4+3,none⟩=some i3:=hu3;replace hf0:w6'.frozen? ⟨g,t*4,none⟩=false:=hf0;replace hf1:w6'.frozen? ⟨g,t*4+1,none⟩=false:=hf1;replace hf2:w6'.frozen? ⟨g,t*4+2,none⟩=false:=hf2;replace hf3:w6'.frozen? ⟨g,t*4+3,none⟩=false:=hf3;have a0:=ah (hf6.aQ 4 3);have a1:=ah (hf6.aQ 2 3);have q0:=ah ((hf6.bl.cell (p:=⟨b2,_,none⟩) hb2').trans f0);have q1:=ah ((hf6.bl.cell (p:=⟨b2,_,none⟩) hb2').trans f1);have q2:=ah ((hf6.bl.cell (p:=⟨b2,_,none⟩) hb2').trans f2);have q3:=ah ((hf6.bl.cell (p:=⟨b2,_,none⟩) hb2').trans f3);obtain⟨wz,hwz⟩:=aC ((((w6'.setCell ⟨g,t*4,none⟩ (.bool x2.1.1)).setCell ⟨g,t*4+1,none⟩ (.slice A2 n2' c2')).setCell ⟨g,t*4+2,none⟩ (.bool x2.2.1)).setCell ⟨g,t*4+3,none⟩ (.slice A2' m2' e2')).drew;have HR4:=Hd (hput (x:=x2) (us:= [.bool x2.1.1,.slice A2 n2' c2',.bool x2.2.1,.slice A2' m2' e2']) (w':=wz) (by
       have hq:∀q,q∈ [g,W6.heap.size]->w.heap.size<=q:=fun q hq=>R3.ge q (by
        rcases List.mem_cons.1 hq with rfl|hq;·exact List.mem_append_left _ (bJ.2 rfl)
        exact List.mem_append_right _ hq)
       have h1:=(HST.out.2.2.2.1.moreL [g,W6.heap.size] hq).go R3.fr.bl;have h2:=(HST.out.2.2.2.2.moreL [g,W6.heap.size] hq).go R3.fr.bl;rw[List.append_nil]at h1 h2;exact JB h1 h2) (by rw[<-hwz];rfl))
      rw[aaw _ _ _ HST.out.2.2.1]at HR4;have o6:=aW hf6;have hkn:t<n4:=by have h1:=hL.out.2.1;have h2:=hL.out.2.2.2.1;omega
      have hk1:(t:Int)<(t:Int)+1:=by omega
      clear R2 R3 hf6 hcell hput ek;gi_wp2;refine aP [] 9 (by kernel_rfl) (by kernel_rfl) ?_;refine ay 0 ?_;refine ay 1 ?_;refine ay 2 ?_;refine ay 3 ?_;refine ay 4 ?_;refine ay 5 ?_;refine ay 6 ?_;refine ay 7 ?_;refine ay 8 ?_;refine iq 1 ?_;refine jW fun K hK K' hK'=>?_;gi_wp2;refine tail_nil _ ?_;simp only[cu];gi_wp2;exact⟨by unfold OnR;exact⟨t+1,_,by omega,by go_num,Hd (by rw[HST.out.1];exact HR4.out)⟩,by simp[intOf];omega⟩
     have o6:=aW (HLL.out _ _ R2.fr);have HR4:=Hd R2;clear R2;gi_wp2;exact⟨by unfold OnR;exact⟨t+1,_,by omega,by go_num,Hd (by rw[HST.out.1];exact HR4.out)⟩,by simp[intOf];omega⟩
    ·have hkm:t=p4:=by omega
     clear ht hlt;subst hkm;obtain⟨A8,cP,hvP,aaL⟩:=hR.out.sl (by rw[HP4.out t (Nat.le_refl _)];omega);rw[HP4.out t (Nat.le_refl _)]at hvP aaL;subst hvP;have hPD:Sl fC wr [W6.heap.size] A8 t cP (aaf (au x) c o).prev:=by show Sl _ _ _ _ _ _ (aae _ _ _ c.prev.length);rw[hL.out.2.1];exact aaL
     have hMD:Sl (List Int) wr [W6.heap.size] A7 k cM (aaf (au x) c o).marks:=HMD.out.keep hR.out.kp;have HPM:=Hd2 hPD hMD;have HF:=Hd hR.out.fr;have oV:=aW (HLL.out _ _ HF.out);have HC3:=Hd (Gz.out 3 0 wr HF.out.bl);obtain⟨Y3,hY3⟩:=aC (aah 3 0 (au x));obtain⟨Y4,hY4⟩:=aC (aah 4 0 (au x));rw[hY3]at HC3;have HYB:=Hd2 (show(aaf (au x) c o).bonus=if Y3=true then c.bonus else o.bonus by rw[<-hY3];rfl) (show(aaf (au x) c o).malus=if Y4=true then c.malus else o.malus by rw[<-hY4];rfl);have HY4:=Hd hY4;clear hR aaL hPD hMD hY3 hY4;gi_wp2;refine Cl 17 HC3.out ?_;rintro e wa ⟨rfl,hba⟩;replace HF:=Hd (HF.out.go hba);replace HPM:=Hd2 (HPM.out.1.go hba) (HPM.out.2.go hba);have oA:=aW (HLL.out _ _ HF.out);clear oV hba;cases Y3;case' false=>obtain⟨V1,hV1⟩:=aC (wa.setCell ⟨W6.heap.size,1,none⟩ (.slice D2 n2 e2));have Zy:∃E f g,Fr w V1 (L++ [(W6.heap.size, [.slice A7 k cM,.slice E f g,.slice B3 p3 d3,.slice A8 t cP])])/\Sl Int w [] E f g (aaf (au x) c o).bonus:=⟨D2,n2,e2,by rw[<-hV1];exact HF.out.qY HLN.out (j:=1) rfl _,by rw[HYB.out.1];exact H.out.2.2.1.bonus⟩;have kp:Keeps [W6.heap.size] wa V1:=by rw[<-hV1];exact(Keeps.refl _ _).setCell (p:=⟨W6.heap.size,1,none⟩) (.inl (by simp)) _
     case' true=>obtain⟨V1,rfl⟩:∃V,V=wa:=⟨_,rfl⟩;have Zy:∃E f g,Fr w V1 (L++ [(W6.heap.size, [.slice A7 k cM,.slice E f g,.slice B3 p3 d3,.slice A8 t cP])])/\Sl Int w [] E f g (aaf (au x) c o).bonus:=⟨B2,p2,d2,HF.out,by rw[HYB.out.1];exact H.out.2.1.bonus⟩;have kp:=Keeps.refl [W6.heap.size] V1
     all_goals
      obtain⟨E2,f2,g2,hF1,hB2⟩:=Zy;have HF1:=Hd hF1;have HB2:=Hd hB2;have HQ:=Hd2 (HPM.out.1.keep kp) (HPM.out.2.keep kp);have oB:=aW (HLL.out _ _ HF1.out);have HC4:=Hd (Gz.out 4 0 V1 HF1.out.bl);rw[HY4.out]at HC4;clear kp hF1 hB2;gi_wp2;refine Cl 17 HC4.out ?_;rintro e wb ⟨rfl,hbb⟩;replace HF1:=Hd (HF1.out.go hbb);replace HQ:=Hd2 (HQ.out.1.go hbb) (HQ.out.2.go hbb);have oC:=aW (HLL.out _ _ HF1.out);clear oB oA hbb;cases Y4;case' false=>obtain⟨V2,hV2⟩:=aC (wb.setCell ⟨W6.heap.size,2,none⟩ (.slice D3 n3 e3));have HX3:∃E f g,Fr w V2 (L++ [(W6.heap.size, [.slice A7 k cM,.slice E2 f2 g2,.slice E f g,.slice A8 t cP])])/\Sl Int w [] E f g (aaf (au x) c o).malus:=⟨D3,n3,e3,by rw[<-hV2];exact HF1.out.qY HLN.out (j:=2) rfl _,by rw[HYB.out.2];exact H.out.2.2.1.malus⟩;have kp2:Keeps [W6.heap.size] wb V2:=by rw[<-hV2];exact(Keeps.refl _ _).setCell (p:=⟨W6.heap.size,2,none⟩) (.inl (by simp)) _
      case' true=>obtain⟨V2,rfl⟩:∃V,V=wb:=⟨_,rfl⟩;have HX3:∃E f g,Fr w V2 (L++ [(W6.heap.size, [.slice A7 k cM,.slice E2 f2 g2,.slice E f g,.slice A8 t cP])])/\Sl Int w [] E f g (aaf (au x) c o).malus:=⟨B3,p3,d3,HF1.out,by rw[HYB.out.2];exact H.out.2.1.malus⟩;have kp2:=Keeps.refl [W6.heap.size] V2
      all_goals
       obtain⟨E3,f3,g3,hF2,hB3⟩:=HX3;have HCD:=Hd (show jE V2 [] (aaf (au x) c o) ⟨A7,k,cM⟩ ⟨E2,f2,g2⟩ ⟨E3,f3,g3⟩ ⟨A8,t,cP⟩from⟨(HQ.out.2.keep kp2).less (by simp),HB2.out.go hF2.bl,hB3.go hF2.bl,(HQ.out.1.keep kp2).less (by simp)⟩);have HF2:=Hd hF2;clear hF2 hB3;have F:=Hd (HLL.out _ _ HF2.out);have oV:=aW F.out;have G0:=Hd trivial;clear kp2
       gi_wp2_with (first
        |(have g:=G2.out;clear g;have XS:=zK QY.out.qw.rv QZ.out.qw.rv;rw[decide_eq_true rfl]at XS;refine Cl 14 XS ?_;clear XS;rintro e wf ⟨rfl,hbf⟩;replace F:=Hd (F.out.go hbf);clear hbf)
        |(have g:=G1.out;clear g;have X:=Nj (H.out.1.go F.out.bl) (HCD.out.go hby) (aaC HG.out.1 HG.out.2) (aaH HG.out.1 HG.out.2 HW.out.1 HW.out.2) HX.out.1 HX.out.2 (aaD HG.out.1 HG.out.2 HN.out.1 HN.out.2) (tab_below H.out.2.2.2 F.out.bl) (b_.nil _);refine Cl 11 X ?_;clear X;rintro e we ⟨u,rfl,z,hbe⟩;rw[HV.out HX.out.2]at z;obtain⟨py,qy,Ay,ny,cy,By,my,dy,rfl,qc⟩:=QC.of z;obtain⟨V5,oM,F5⟩:=dR ((F.out.go hbe).a we.heap.size [.bool py,.slice Ay ny cy,.bool qy,.slice By my dy] 42);have hb5:Below we.heap.size we V5:=by rw[<-oM];exact bel
          have QZ:=Hd (qc.go hb5);replace QY:=Hd ((QY.out.go hbe).go hb5);replace F:=Hd F5;have o5:=aW F.out;have G2:=Hd trivial;clear F5 z qc hbe hb5)
        |(have g:=G0.out;clear g;have X:=Nj (H.out.1.go F.out.bl) (H.out.2.1.go F.out.bl) HG.out.1 HW.out.1 HX.out.1 HX.out.2 HN.out.1 (tab_below H.out.2.2.2 F.out.bl) (b_.nil _);refine Cl 11 X ?_;clear X;rintro e wd ⟨u,rfl,z,hbd⟩;obtain⟨px,qx,Ax,nx,cx,Bx,mx,dx,rfl,qc⟩:=QC.of z;obtain⟨V4,hV4,F4⟩:=dR ((F.out.go hbd).a wd.heap.size [.bool px,.slice Ax nx cx,.bool qx,.slice Bx mx dx] 42);have hb4:Below wd.heap.size wd V4:=by rw[<-hV4];exact bel
          have hby:=hbd.trans (hb4.mono hbd.size);have QY:=Hd (qc.go hb4);replace F:=Hd F4;have o4:=aW F.out;have G1:=Hd trivial;clear F4 z qc hbd hb4)
        |(refine⟨trivial,?_⟩))
       go_ret;exact⟨rfl,F.out.bl⟩
end
end
section
open Go.ChangeShapes Go.WideShapes Go.ChangeAt Go.RowKit Go.Deep Go.Joins
section
set_option maxRecDepth 100000
theorem own:ownKnob prog.godebug=none:=by kernel_rfl
theorem laidOut:laidOutB prog=true:=by kernel_rfl
theorem jU:Opens Int prog 3:=QU underlying3
theorem wM:Opens ByteArray prog 9:=IL underlying9
theorem uS:Opens (List Int) prog 26:=iI underlying26 (by kernel_rfl) (by decide+kernel) jU
theorem Zp:Opens bT prog 53:=fG underlying53 (by kernel_rfl) (aX rfl (by kernel_rfl) wM (aX rfl (by kernel_rfl) jU (aX rfl (by kernel_rfl) jU (aX rfl (by kernel_rfl) jU (aX rfl (by kernel_rfl) jU (aX rfl (by kernel_rfl) jU (iL rfl (by kernel_rfl) (qP underlying4))))))))
theorem Zq:Opens bW prog 61:=fG underlying61 (by kernel_rfl) (aX rfl (by kernel_rfl) wM (aX rfl (by kernel_rfl) jU (iL rfl (by kernel_rfl) jU)))
theorem op_key:Opens bK prog 116:=fG underlying116 (by kernel_rfl) (aX rfl (by kernel_rfl) jU (aX rfl (by kernel_rfl) wM (iL rfl (by kernel_rfl) jU)))
theorem op_tie:Opens dA prog 108:=fG underlying108 (by kernel_rfl) (aX rfl (by kernel_rfl) wM (iL rfl (by kernel_rfl) (iI underlying106 (by kernel_rfl) (by decide+kernel) op_key)))
theorem Zr:Opens aU prog 48:=NH underlying48 (by kernel_rfl) (by decide+kernel) ⟨rfl,rfl,rfl,rfl,rfl⟩ ⟨by kernel_rfl,by kernel_rfl,by kernel_rfl,by kernel_rfl,by kernel_rfl⟩ underlying3 underlying9 underlying3 underlying3 underlying46
theorem Xy:Opens aJ prog 50:=fG underlying50 (by kernel_rfl) (aX rfl (by kernel_rfl) wM (aX rfl (by kernel_rfl) jU (aX rfl (by kernel_rfl) jU (aX rfl (by kernel_rfl) jU (aX rfl (by kernel_rfl) (qP underlying4) (aX rfl (by kernel_rfl) (qP underlying4) (aX rfl (by kernel_rfl) Zr (aX rfl (by kernel_rfl) wM (iL rfl (by kernel_rfl) jU)))))))))
theorem Xz:Opens lG prog 40:=fG underlying40 (by kernel_rfl) (aX rfl (by kernel_rfl) (qP underlying4) (iL rfl (by kernel_rfl) uS))
theorem op_rat:Opens fC prog 42:=fG underlying42 (by kernel_rfl) (aX rfl (by kernel_rfl) Xz (iL rfl (by kernel_rfl) Xz))
abbrev RulT:=ByteArray×List bT×List bW×List bW×List dA×List aJ×List Int×List Int×Int
abbrev CrdT:=List (List Int)×List Int×List Int×List fC
theorem Nq:Opens (List bW) prog 23:=iI underlying23 (by kernel_rfl) (by decide+kernel) Zq
theorem XA:Opens RulT prog 28:=fG underlying28 (by kernel_rfl) (aX rfl (by kernel_rfl) wM (aX rfl (by kernel_rfl) (iI underlying22 (by kernel_rfl) (by decide+kernel) Zp) (aX rfl (by kernel_rfl) Nq (aX rfl (by kernel_rfl) Nq (aX rfl (by kernel_rfl) (iI underlying24 (by kernel_rfl) (by decide+kernel) op_tie) (aX rfl (by kernel_rfl) (iI underlying25 (by kernel_rfl) (by decide+kernel) Xy) (aX rfl (by kernel_rfl) uS (aX rfl (by kernel_rfl) uS (iL rfl (by kernel_rfl) jU)))))))))
theorem Zt:Opens CrdT prog 32:=fG underlying32 (by kernel_rfl) (aX rfl (by kernel_rfl) (iI underlying29 (by kernel_rfl) (by decide+kernel) uS) (aX rfl (by kernel_rfl) uS (aX rfl (by kernel_rfl) uS (iL rfl (by kernel_rfl) (iI underlying30 (by kernel_rfl) (by decide+kernel) op_rat)))))
section
variable {H:Type}{enc:TypeId×Value→H}{W:World}{v:Value}{d:DataW H}{p:List MemPlace}{b:Nat}
theorem Uc(hv:Value.okWide prog W .any b 28 v)(h:DataW.Trod enc prog W 0 (fun _=>true) true 28 v d p)(hw:∀n,n∈d.weights prog 28->n<=reachBytes):
 ∃r s1 s2 s3 s4 s5 s6 s7,v=.agg (aV r s1 s2 s3 s4 s5 s6 s7).toArray/\dG W [] r s1 s2 s3 s4 s5 s6 s7:=by
 obtain⟨cs,rfl,hsz⟩:=okWide_struct underlying28 hv;obtain⟨fuel,hg⟩:=h;rw[show(Value.cells (.agg cs)).toList=cs.toList from rfl]at hg;obtain⟨x,hx⟩:=XA H enc W true fuel _ d p hg hw;obtain⟨_,_,e,h0,_,_,rfl,⟨A1,n1,c1,rfl,g1⟩,_,_,rfl,⟨A2,n2,c2,rfl,g2⟩,_,_,rfl,⟨A3,n3,c3,rfl,g3⟩,_,_,rfl,⟨A4,n4,c4,rfl,g4⟩,_,_,rfl,⟨A5,n5,c5,rfl,g5⟩,_,_,rfl,⟨A6,n6,c6,rfl,g6⟩,_,_,rfl,⟨A7,n7,c7,rfl,g7⟩,⟨rfl,h8⟩⟩:=hx;have e0:_=_:=h0;subst e0;exact⟨⟨x.1,x.2.1,x.2.2.1,x.2.2.2.1,x.2.2.2.2.1,x.2.2.2.2.2.1,x.2.2.2.2.2.2.1,x.2.2.2.2.2.2.2.1,x.2.2.2.2.2.2.2.2⟩,⟨A1,n1,c1⟩,⟨A2,n2,c2⟩,⟨A3,n3,c3⟩,⟨A4,n4,c4⟩,⟨A5,n5,c5⟩,⟨A6,n6,c6⟩,⟨A7,n7,c7⟩,congrArg Value.agg (Array.toList_inj.1 e),g1,g2,g3,g4,g5,g6,g7,h8⟩
theorem XB(hv:Value.okWide prog W .any b 32 v)(h:DataW.Trod enc prog W 0 (fun _=>true) true 32 v d p)(hw:∀n,n∈d.weights prog 32->n<=reachBytes):
 ∃c t1 t2 t3 t4,v=.agg (dI t1 t2 t3 t4).toArray/\jE W [] c t1 t2 t3 t4:=by
 obtain⟨cs,rfl,hsz⟩:=okWide_struct underlying32 hv;obtain⟨fuel,hg⟩:=h;rw[show(Value.cells (.agg cs)).toList=cs.toList from rfl]at hg;obtain⟨x,hx⟩:=Zt H enc W true fuel _ d p hg hw;obtain⟨_,_,e,⟨A1,n1,c1,rfl,g1⟩,_,_,rfl,⟨A2,n2,c2,rfl,g2⟩,_,_,rfl,⟨A3,n3,c3,rfl,g3⟩,⟨A4,n4,c4,rfl,g4⟩⟩:=hx;exact⟨⟨x.1,x.2.1,x.2.2.1,x.2.2.2⟩,⟨A1,n1,c1⟩,⟨A2,n2,c2⟩,⟨A3,n3,c3⟩,⟨A4,n4,c4⟩,congrArg Value.agg (Array.toList_inj.1 e),g1,g2,g3,g4⟩
theorem Zu(hv:Value.okWide prog W .any b 3 v)(h:DataW.Trod enc prog W 0 (fun _=>true) true 3 v d p):∃x,v=.int .i64 x/\i64 x:=by obtain⟨x,rfl,-,-,wx⟩:=open_int underlying3 hv h;exact⟨x,rfl,wf_i64 wx⟩
end
end
end
section
section
set_option maxRecDepth 100000
theorem aau:((Rows.scoreOnlyRow.inPlace==prog.inPlace 5))=true:=by kernel_rfl
theorem aao:((Rows.scoreOnlyRow.named==prog.varsNamed 5))=true:=by kernel_rfl
end
section
set_option maxRecDepth 100000
theorem aap:((Rows.scoreOnlyRow.unfollowed==prog.unfollowed 5))=true:=by kernel_rfl
theorem aaq:((Rows.scoreOnlyRow.recurses==prog.recurses 5))=true:=by kernel_rfl
end
section
set_option maxRecDepth 100000
theorem gB{a b:Bool}(h:a=true)(k:b=true):(a&&b)=true:=by rw[h,k];rfl
theorem kr{p:Prop}(h:p:=by kernel_rfl):p:=h
theorem aaj:joinedFacts prog 5 f5 Rows.scoreOnlySpec Rows.scoreOnlyRow=true:=by unfold joinedFacts;exact gB (gB (gB (gB (gB (gB (gB (gB (gB (gB (gB (gB (gB (gB (gB (gB (gB (gB (gB (gB (gB (gB (gB (gB (gB (gB (gB (gB (gB (gB (gB kr kr) kr) kr) kr) kr) kr) kr) kr) aau) aap) aaq) aao) kr) kr) kr) kr) kr) kr) kr) kr) kr) kr) kr) kr) kr) kr) kr) kr) kr) kr) kr
end
open Go.ChangeShapes Go.WideShapes Go.ChangeAt Go.RowKit
section
set_option maxRecDepth 100000
theorem door_met(os:Os)(args:Array Value):laidMetH prog Rows.scoreOnlyRow.laid ((World.doorLaid prog 400 os).forCall (fun _ _=>0) ⟨#[],args, []⟩).memory:=laidMetH_of_parts3 (fuel:=8) (laidMet_of_run' 8 (by kernel_rfl) (by kernel_rfl)) (by kernel_rfl) (by kernel_rfl)
theorem tab_of{W:World}(h:laidMetH prog Rows.scoreOnlyRow.laid W):Tab W:=by rw[MakeChecks.laidMetH_plain _ _ _ (by kernel_rfl)]at h;exact Lib.tabIs_of_head (t:=286) (e:=5) (g:=0) (n:=256) (rest:= []) (by kernel_rfl) (by kernel_rfl) underlying286 underlying5 (by kernel_rfl) (by kernel_rfl) (laidMet.tail h)
theorem aak(os:Os)(started:os.Started)(H:Type)(enc:TypeId×Value->H):
 ReturnsInHanded {} checked os 5 .any (fun w args=>(Rows.scoreOnlySpec.pre enc prog f5 [] false w args/\laidMetH prog Rows.scoreOnlyRow.laid w)/\sizedMet enc prog f5 (OpenSpec.ofChange Rows.scoreOnlySpec) false w args) (Rows.scoreOnlySpec.post enc prog f5 false true false false):=by
 refine returnsInHanded_of_change_and (C:=checked) (X:=fun w _=>laidMetH prog Rows.scoreOnlyRow.laid w) (fun _ _ _ hh h=>h.of_heap hh) own started (by kernel_rfl) func5 (ChangeSpec.witness_shaped (enc:=enc) (C:=checked) (os:=os) (X:=fun w _=>laidMetH prog Rows.scoreOnlyRow.laid w) false (World.doorLaid prog 400 os) #[.agg #[.string ⟨#[]⟩,.slice none 0 0,.slice none 0 0,.slice none 0 0,.slice none 0 0,.slice none 0 0,.slice none 0 0,.slice none 0 0,.int .i64 0],.int .i64 0,.agg #[.slice none 0 0,.slice none 0 0,.slice none 0 0,.slice none 0 0],.agg #[.slice none 0 0,.slice none 0 0,.slice none 0 0,.slice none 0 0]] 8 rfl (World.shaped_of_RefB (by kernel_rfl) (by kernel_rfl)) (by kernel_rfl) (by kernel_rfl) (by kernel_rfl) (door_met os _)) ?_;intro W base args ds gs before hval0 hW _ hsz0 hL _;have hsz:(DataW.weightsEach prog (f5.params.toList++Rows.scoreOnlySpec.plain.varTypes prog) (ds++gs)).all (· <=reachBytes)=true:=hsz0;have hval:∀(j:Nat) t v,f5.params[j]?=some t->args[j]?=some v->Value.okWide prog W .any base t v:=hval0;have hW':=hW;have hlt:=hW.lt;obtain⟨p,q,hA0,hV,rfl,hfz,hnd⟩:=hW;have hA:DataW.TrodAll enc prog W 0 (fun _=>true) true f5.params.toList args.toList ds p:=hA0;rw[params5]at hA hval hsz;obtain⟨v0,v1,v2,v3,d0,d1,d2,d3,p0,p1,p2,p3,rfl,rfl,rfl,h0,h1,h2,h3⟩:=trodAll_four hA;obtain⟨rfl,rfl⟩:=trodVars_none hV;clear hA0 hval0 hsz0;have hwt:∀(j:Nat) (t:TypeId) (d:DataW H), [28,3,32,32][j]?=some t-> [d0,d1,d2,d3][j]?=some d->∀n,n∈d.weights prog t->n<=reachBytes:=by
  intro j t d ht hd n hn;have:=List.all_eq_true.1 hsz n (DataW.weights_mem_each (j:=j) (by
   rw[List.getElem?_append_left (List.getElem?_eq_some_iff.1 ht).1];exact ht) (by
   rw[List.append_nil];exact hd) n hn)
  simpa using this
 obtain⟨r0,s01,s02,s03,s04,s05,s06,s07,rfl,hx0⟩:=Uc (hval 0 _ _ rfl rfl) h0 (hwt 0 _ _ rfl rfl);obtain⟨x1,rfl,hx1⟩:=Zu (hval 1 _ _ rfl rfl) h1;obtain⟨c2,t21,t22,t23,t24,rfl,hx2⟩:=XB (hval 2 _ _ rfl rfl) h2 (hwt 2 _ _ rfl rfl);obtain⟨c3,t31,t32,t33,t34,rfl,hx3⟩:=XB (hval 3 _ _ rfl rfl) h3 (hwt 3 _ _ rfl rfl);simp only[List.append_nil]at hW' hlt;refine(aan hx0 hx2 hx3 (tab_of hL)).mono fun e W' ⟨he,hb⟩=>?_;subst he;refine⟨_,rfl,_,_,_, [],p0++(p1++(p2++p3)), [],hW',trodAll_mk1 (shut_bool underlying4 true),?_,rfl,hb.frame _,fun h=>by cases h⟩;exact trodAll_mk4 (hb.trod laidOut (by kernel_rfl) (by decide+kernel) h0 (fun x hx=>hlt x (by simp[hx]))) (hb.trod laidOut (by kernel_rfl) (by decide+kernel) h1 (fun x hx=>hlt x (by simp[hx]))) (hb.trod laidOut (by kernel_rfl) (by decide+kernel) h2 (fun x hx=>hlt x (by simp[hx]))) (hb.trod laidOut (by kernel_rfl) (by decide+kernel) h3 (fun x hx=>hlt x (by simp[hx])))
end
section
set_option maxRecDepth 100000
theorem aar:Rows.ScoreOnlySaid:=
 OpenClaim.holds_of_wide 5 f5 rfl rfl rfl rfl rfl rfl rfl ⟨rfl,rfl,rfl,rfl,rfl⟩ rfl rfl rfl rfl rfl (by kernel_rfl) func5 aaj
  (of_decide_eq_true (by kernel_rfl)) (by unfold Func.isWrapper;rw[if_neg (of_decide_eq_false (by kernel_rfl))];exact⟨rfl,rfl⟩)
  (fun os started H enc _=>aak os started H enc)
end
end
end Go.Proofs.YtlcgbfkdnmdigaaGreatDoor
namespace Go.Proofs.YtlcgbfkdnmdigaaGreatDoor
open Go.Proofs.Tryz Go.ChangeShapes Go.WideShapes Go.ChangeAt Go.RowKit
section
section
set_option maxRecDepth 100000
theorem scoreOnly_holds:Rows.ScoreOnlyCardSaid:=
 Claim7.holds_tied_plain_at .later [] [.listed,.data] true (true, "169c9d69dba5f1f76e078c95a757263ad5d8fb060565e0f511d0ab20e1c72040") true
  aar (fun _ h=>by cases h) (by kernel_rfl) (fun _ h=>by cases h) scoreOnly_row_tie rfl ⟨rfl,rfl⟩ (by kernel_rfl) rfl
  (fun f fn hf hfn=>by obtain rfl:f=5:=Option.some.inj ((show prog.funcNamed "podium/podiumlaw17.ScoreOnly" =some 5 by kernel_rfl).symm.trans hf) |>.symm;obtain rfl:fn=f5:=(Option.some.inj (func5.symm.trans hfn)).symm;exact⟨by kernel_rfl,fun j t ht=>by
     rw[params5]at ht;have hm:t∈ [28,3,32,32]:=by simpa using Array.mem_of_getElem? ht
     have hall:([28,3,32,32].all fun u=> !prog.wantsStandIn u)=true:=by kernel_rfl
     exact(show prog.wantsStandIn t=false by simpa using List.all_eq_true.1 hall t hm)⟩)
  (by kernel_rfl)
end
end
end Go.Proofs.YtlcgbfkdnmdigaaGreatDoor
