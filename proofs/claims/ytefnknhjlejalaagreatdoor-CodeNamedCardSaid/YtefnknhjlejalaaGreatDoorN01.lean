/- Lemmas and walks; no statement is proved here. -/
import Derived.Test.YtefnknhjlejalaaGreatDoorRows
import Derived.JoinedOf
import Derived.Test.YtefnknhjlejalaaGreatDoorTie
import Derived.Test.YtefnknhjlejalaaGreatDoorCards
import Derived.LaidMore
import Derived.Stop.Joined
import Derived.Stop.LaidErr
import Derived.SevenTiedAt
import Derived.Test.YtefnknhjlejalaaGreatDoorM49
set_option linter.unusedVariables false
set_option linter.unusedSimpArgs false
set_option maxRecDepth 20000
set_option maxHeartbeats 6000000
namespace Go.Proofs.YtefnknhjlejalaaGreatDoor
theorem agl{p:Prop}(h:p:=by simp[Value.cells]at e;obtain⟨rfl,rfl,rfl⟩:=e;exact⟨A,n,c,xs,rfl,hs⟩):p:=h
variable {n c k:Nat}{a:Act}{w:World}{A B:Option Addr}{M:List Nat}{m i m' f:Int}{l:List RatR}{x:InsR}{o:RatR}
section
open Go.RowKit Go.Shelf
theorem afO{F:Fence}{P:Program}{Q:Exit->Act->World->Prop}{c:Code}(ds:List Nat)(R:(Nat->Value)->World->Prop)
 (h1:c.wpIn F n P (fun e a' w'=>e=.normal/\∃f,a'=oh ds f a/\R f w') a w) (h2:∀f w',R f w'->Q .normal (oh ds f a) w'):c.wpIn F n P Q a w:=
 wpIn_mono h1 (by rintro e a' w' ⟨rfl,f,rfl,hR⟩;exact h2 f w' hR)
theorem afT{A:Act}{ds:List Nat}{R:(Nat->Value)->World->Prop}{w':World}(hA:A=oh ds (fun d=>A.tmps.toList.getD d undef) a)(hR:R (fun d=>A.tmps.toList.getD d undef) w'):∃f,A=oh ds f a/\R f w':=⟨_,hA,hR⟩
def af_(M:List Nat)(r:RatR)(L E:Int)(w:World)(e:Ending)(w':World):Prop:=∃u,e=.returned (.tuple #[u,.int .i64 L,.int .i64 E])/\RV w' M u r/\Below w.heap.size w w'
theorem afU{m d:Nat}{p:List InsR}{fuel L E:Int}{r:RatR}(h:FwR p l)(hM:b_ M w)(hp:Sl InsR w M A n c p)(hl:Sl RatR w M B m d l)(hf:i64 fuel)(hE:oC p l fuel=E)(hL:aat p l fuel=L)(hV:Bj p l fuel=r):
 Calls Tryz.prog 9 #[.slice A n c,.slice B m d,.int .i64 fuel] w (af_ M r L E w):=by
 subst hE hL hV;exact RY h hM hp hl hf
end
theorem afV{n j:Int}(h:bf n i=true)(hij:i<=j):bf n j=true:=decide_eq_true (by have:=of_decide_eq_true h;omega)
theorem afW(h:aj i m x=true)(hm:m<=m'):aj i m' x=true:=by
 obtain⟨op,a,b,c,d,r⟩:=x;simp only[aj]at h |-;by_cases h1:op=1;·rw[if_pos h1]at h |-;exact h
 rw[if_neg h1]at h |-;by_cases h2:op=2;·rw[if_pos h2]at h |-;simp only[Bool.and_eq_true]at h |-;exact⟨⟨⟨⟨afV h.1.1.1.1 hm,h.1.1.1.2⟩,h.1.1.2⟩,h.1.2⟩,h.2⟩
 rw[if_neg h2]at h |-;exact h
theorem afN{m m':Int}(hm:m<=m'):∀{p:List InsR}{i:Int},iy m i p=true->iy m' i p=true
 | [],_,_=>rfl
 |x::p,i,h=>by simp only[iy,Bool.and_eq_true]at h |-;exact⟨afW h.1 hm,afN hm h.2⟩
theorem af4{p:List InsR}(h1:1<=p.length)(h2:p.length<=4096)(h:iy m 0 p=true):fC p m=0:=(yj p m).2 ⟨⟨h1,h2⟩,h⟩
theorem af5{p:List InsR}(h:fC p m=0)(hm:m<=m'):fC p m'=0:=by obtain⟨⟨h1,h2⟩,h3⟩:=(yj p m).1 h;exact af4 h1 h2 (afN hm h3)
def agi(op a b c d:Int):InsR:=(op,a,b,c,d,((false, []),(false, [])))
theorem afG{ins ins':List Rt}:∀{p:List InsR}{reg:List Rt},(∀x,x∈p->x.1=2->aW ins x.2.1=aW ins' x.2.1)->jf ins reg p=jf ins' reg p
 | [],_,_=>rfl
 |x::p,reg,h=>by
  have e:rG ins reg x=rG ins' reg x:=by
   have h0:=h x List.mem_cons_self;obtain⟨op,a,b,c,d,r⟩:=x;simp only[rG];by_cases h1:op=1;·rw[if_pos h1,if_pos h1]
   rw[if_neg h1,if_neg h1];by_cases h2:op=2;·rw[if_pos h2,if_pos h2];exact h0 h2
   rw[if_neg h2,if_neg h2]
  rw[jf,jf,e];exact afG fun y hy=>h y (List.mem_cons_of_mem _ hy)
def afD(l:List RatR):Int:=if l.all dF=true then 0 else 100
theorem afP{p:List InsR}(hc:fC p l.length=0)(hf:(p.length:Int)<=f):oC p l f=afD l:=by unfold oC afD;rw[if_pos hc,if_neg (show ¬f<(p.length:Int) by omega)]
theorem af8{p:List InsR}(h:oC p l f=0):aat p l f=f-p.length:=by rw[aat,if_pos h]
theorem af9{p:List InsR}(h:oC p l f=0):Bj p l f=jd (zJ p (l.map OE)):=by rw[Bj,if_pos h]
theorem FwR.of{p q:List InsR}(h:FwR p l)(hp:p.length<=64)(hq:q.length<=64)(hs:∀x,x∈q->x∈p\/Few3 x.2.2.2.2.2):FwR q l:=⟨.inl hq,fun _ x hx=>(hs x hx).elim (fun e=>h.fp hp x e) id,h.nl,h.fl⟩
theorem Fw19.short{p:List InsR}(h:Fw19 p l)(hc:fC p m=0):1<=p.length/\p.length<=60:=by have h1:=((yj p m).1 hc).1;have h2:=h.np;omega
def mo1(p:List InsR)(k:Nat):List InsR:=p.take (k+1)++ [agi 6 k k 0 0]
structure agf(p:List InsR)(l:List RatR)(k:Nat):Prop where
 c1:fC (p.take (k+1)) l.length=0
 c2:fC p ((l.length:Int)+1)=0
 w1:FwR (p.take (k+1)) l
 w2:FwR (mo1 p k) l
 e1:oC (p.take (k+1)) l 100=afD l
 e2:oC (mo1 p k) l 100=afD l
 l1:afD l=0->aat (p.take (k+1)) l 100=100-((k+1:Nat):Int)
 l2:afD l=0->aat (mo1 p k) l 100=100-((k+1:Nat):Int)-1
 v:afD l=0->Bj (mo1 p k) l 100=Bj (p.take (k+1)) l 100
theorem aga(l:List RatR):afD l=0\/afD l=100:=by unfold afD;split<;>simp
theorem agf.ex{p:List InsR}(h:agf p l k):∃E L1 L2 r1 r2,oC (p.take (k+1)) l 100=E/\oC (mo1 p k) l 100=E/\aat (p.take (k+1)) l 100=L1/\aat (mo1 p k) l 100=L2/\Bj (p.take (k+1)) l 100=r1/\Bj (mo1 p k) l 100=r2/\
 ((E=0/\L1=100-((k+1:Nat):Int)/\L2=100-((k+1:Nat):Int)-1/\r2=r1)\/E=100):=by
 refine⟨_,_,_,_,_,h.e1,h.e2,rfl,rfl,rfl,rfl,?_⟩;rcases aga l with e|e;·exact .inl ⟨e,h.l1 e,h.l2 e,h.v e⟩
 ·exact .inr e
def chL(l:List RatR)(o:RatR)(k:Nat):List RatR:=(l++ [o]).set k o
theorem afX{x:RatR}(h:x∈chL l o k):x∈l\/x=o:=by
 rcases List.mem_or_eq_of_mem_set h with h|h
 ·rcases List.mem_append.1 h with h|h;·exact .inl h
  exact .inr (List.mem_singleton.1 h)
 exact .inr h
theorem afY(l:List RatR)(o:RatR)(k:Nat):(chL l o k).length=l.length+1:=by simp[chL]
theorem afH{p:List InsR}(hc:fC p m=0)(hx:x∈p)(h2:x.1=2):0<=x.2.1/\x.2.1<m:=by obtain⟨j,hj⟩:=List.getElem?_of_mem hx;have h:=uG ((yj p m).1 hc).2 hj;obtain⟨op,a,b,c,d,r⟩:=x;have h2:op=2:=h2;subst h2;simp only[aj,show ¬(2:Int)=1 by decide,if_false,if_true,Bool.and_eq_true]at h;exact of_decide_eq_true h.1.1.1.1
theorem af6{p:List InsR}(hw:Fw19 p l)(ho:Fw19 p [o])(hc:fC p l.length=0)(hk:k<=l.length)(hn:∀x,x∈p->x.1=2->x.2.1≠(k:Int))(hok:dF o=true)(hl:l.all dF=true):
 FwR p (chL l o k)/\(oC p l 1000=0/\aat p l 1000=1000-p.length)/\oC p (chL l o k) 1000=0/\aat p (chL l o k) 1000=1000-p.length/\Bj p (chL l o k) 1000=Bj p l 1000:=by
 obtain⟨h1,h60⟩:=hw.short hc;have e1:oC p l 1000=0:=by rw[afP hc (by omega),afD,if_pos hl]
 have e2:oC p (chL l o k) 1000=0:=by
  rw[afP (by rw[afY];exact af5 hc (by omega)) (by omega),afD,if_pos];rw[List.all_eq_true]at hl |-;intro x hx;rcases afX hx with hx|rfl;·exact hl x hx
  exact hok
 refine⟨⟨.inl (by omega),hw.r.fp,by have:=hw.nl;rw[afY];omega,fun x hx=>?_⟩,⟨e1,af8 e1⟩,e2,af8 e2,?_⟩
 ·rcases afX hx with hx|rfl;·exact hw.fl x hx
  exact ho.fl x (by simp)
 ·rw[af9 e1,af9 e2];unfold zJ;congr 2;refine afG fun x hx h2=>?_;obtain⟨b0,b1⟩:=afH hc hx h2;have hne:=hn x hx h2;unfold aW;rw[List.getD_eq_getElem?_getD,List.getD_eq_getElem?_getD,List.getElem?_map,List.getElem?_map,chL,List.getElem?_set_ne (by omega),List.getElem?_append_left (by omega)]
section
open Go.RowKit Go.Shelf
attribute [local go_sem] Oper.semAt_some
theorem afZ{a:Int}(h0:0<=a)(hn:0<n):∃k:Nat,k<n/\a.tmod (n:Int)=(k:Int):=by have h1:0<=a.tmod (n:Int):=Int.tmod_nonneg _ h0;have h2:a.tmod (n:Int)<(n:Int):=Int.tmod_lt_of_pos _ (by omega);exact⟨(a.tmod (n:Int)).toNat,by omega,by omega⟩
end
section
namespace U
open Go.RowKit Go.Shelf
attribute [local go_sem] Oper.semAt_some
theorem af0{p q:Bool}{m d:Nat}{x:RatR}(h:RV w M (.agg #[.bool p,.slice A n c,.bool q,.slice B m d]) x):Rep.rd w M x [.bool p,.slice A n c,.bool q,.slice B m d]:=by obtain⟨A',n',c',B',m',d',e,h1,h2⟩:=h;cases e;exact JB h1 h2
theorem afQ{α:Type} [kJ α] {t e:TypeId}{base g:Nat}{xs:List α}(h:bD α e w [] base (.slice (some ⟨g,0,none⟩) 0 0) 0 [])(hb:base<=w.heap.size)(ht:Tryz.prog.underlying t=some (.slice e))(hi:iU e (Rep.sz α))(hs:Sl α w [g] A n c xs)(hn:n<=1000):
 ∃A' c' w',(Builtin.append_ #[t,t] t #[.slice (some ⟨g,0,none⟩) 0 0,.slice A n c]).run Tryz.prog w=.ok (.slice A' n c') w'/\bD α e w' [] base (.slice A' n c') n xs/\w.grownBy w' (some g)/\((Value.slice A' n c').ownBlock=some g\/(Value.slice A' n c').ownBlock=some w.heap.size):=by
 obtain⟨i,z,i1,i2,i3,i4,i5⟩:=hi;obtain⟨v',w',r1,r2,r3,r4⟩:=h.uy (t:=t) (ty:=t) hb ht i1 i2 i3 i4 hs (Nat.le_trans (Nat.mul_le_mul (show 0+n<=1000 by omega) i5) (by decide)) (by omega);rw[Nat.zero_add,List.nil_append]at r2;obtain⟨A',c',rfl⟩:=r2.shape;exact⟨A',c',w',r1,r2,r3,r4⟩
structure NmH(V W:World)(v:Value)(m y:Nat)(l:List RatR)(oc:List Value):Prop where
 own:bD RatR 30 W [] V.heap.size v m l
 row:gG W y oc 30
 ne:y∉bP v
 bl:Below V.heap.size V W
theorem NmH.app{V W:World}{v:Value}{m y:Nat}{oc:List Value}(h:NmH V W v m y l oc)(ho:Rep.rd V [] o oc)(hm:m<=100):
 ∃g c w',(Builtin.append_ #[23,23] 23 #[v,.slice (some ⟨y,0,none⟩) 1 1]).run Tryz.prog W=.ok (.slice (some ⟨g,0,none⟩) (m+1) c) w'/\bD RatR 30 w' [] V.heap.size (.slice (some ⟨g,0,none⟩) (m+1) c) (m+1) (l++ [o])/\Below V.heap.size V w'/\Keeps V.heap.size W w':=by
 obtain⟨i,z,i1,i2,i3,i4,i5⟩:=Iq;have hy:Sl RatR W (bP v++ []) (some ⟨y,0,none⟩) 1 1 [o]:=by
  refine⟨rfl,Nat.le_refl _,by unfold jG;omega,by omega,.inr ⟨y,0,rfl,fun k x hk=>?_⟩⟩
  match k,hk with
  |0,hk=>
   cases hk;refine⟨oc,?_,by simpa using h.ne,fun j u hu=>?_⟩
   ·rcases h.own.ex with⟨cs,h1,-⟩;rcases h1.2 with⟨rfl,-⟩|⟨g,cap,cur,rfl,hg,-⟩;·simpa[bP,Value.ownBlock]using Rep.keep ho (Go.Proofs.YtefnknhjlejalaaGreatDoor.Keeps.of_below h.bl _)
    exact Rep.keep (Rep.more ho hg) (Go.Proofs.YtefnknhjlejalaaGreatDoor.Keeps.of_below h.bl _)
   ·simpa using h.row.cell hu
 obtain⟨v',w',r1,r2,r3,-⟩:=h.own.uy (t:=23) (ty:=23) h.bl.size Tryz.underlying23 i1 i2 i3 i4 hy (Nat.le_trans (Nat.mul_le_mul (show m+1<=1000 by omega) i5) (by decide)) (by omega);obtain⟨g,c,rfl⟩:=qA r2 (by omega);exact⟨g,c,w',r1,r2,h.bl.grown r3 h.bl.size (fun k hk=>(h.own.lt hk).1),⟨r3.size,fun k hk hs=>r3.block k hk (fun e=>by have:=(h.own.lt e.symm).1;omega)⟩⟩
def KNm(w:World)(A:Option Addr)(n c:Nat)(p:List InsR)(B:Option Addr)(m d:Nat)(l:List RatR)(oc:List Value)(o:RatR)(V:World):Prop:=Fr w V ([]++ [(w.heap.size,oc)])/\RV V [] (.agg oc.toArray) o/\K19 w A n c p B m d l V
set_option maxRecDepth 100000 in
set_option maxHeartbeats 8000000 in
theorem afI{m d:Nat}{p:List InsR}{a:Int}{Ao afv:Option Addr}{no co mo dd:Nat}(hp:Sl InsR w [] A n c p)(hl:Sl RatR w [] B m d l)(ha:0<=a/\a<=255)(ho1:Sl Int w [] Ao no co o.1.2)(ho2:Sl Int w [] afv mo dd o.2.2)(ht:Tab w):
 CB 5 #[.slice A n c,.slice B m d,.int .u8 a,.agg #[.bool o.1.1,.slice Ao no co,.bool o.2.1,.slice afv mo dd]] (.bool true) w:=by
 refine wid ?_;have hpl:=hp.len;have hll:=hl.len;have hsp:=hp.small;have hsl:=hl.small;have HL:=Hd2 hpl hll;have ho:RV w [] (.agg #[.bool o.1.1,.slice Ao no co,.bool o.2.1,.slice afv mo dd]) o:=⟨_,_,_,_,_,_,rfl,ho1,ho2⟩;obtain⟨po,hpo⟩:=aC o.1.1;obtain⟨afC,hqo⟩:=aC o.2.1;rw[hpo,hqo]at ho |-;obtain⟨W1,hW1,F1⟩:=nam ((Fr.nil w).a w.heap.size [.bool po,.slice Ao no co,.bool afC,.slice afv mo dd] 30);have J:=Hd (show St W1 (fun V=>KNm w A n c p B m d l [.bool po,.slice Ao no co,.bool afC,.slice afv mo dd] o V) by unfold St;exact fun V h=>⟨F1.go h,(ho.go F1.bl).go h,(hp.go F1.bl).go h,(hl.go F1.bl).go h,F1.bl.trans (h.mono F1.bl.size)⟩);have HT:=Hd (tab_below ht F1.bl);have HO:=Hd2 hpo hqo;clear hp hl ht ho1 ho2 ho F1 hpl hll hpo hqo;refine ent Tryz.func5 rfl Tryz.ntmps5 ?_;gi_wp2;refine Cl 7 (FH HT.out) ?_;rintro e w2 ⟨rfl,hb⟩;replace J:=Hd (J.out.go hb);clear hb HT;gi_wp2;refine Cl 8 (few19_any J.out.at_.2.2.1 J.out.at_.2.2.2.1) ?_;intro e w3 hw;obtain⟨b,rfl,hP,hb⟩:=hw.of;replace J:=Hd (J.out.go hb);clear hb;have o3:=opc J.out.at_.1;cases b
 ·gi_wp2
  iterate 3
   refine⟨trivial,?_⟩;gi_wp2
  go_ret;exact⟨rfl,J.out.at_.2.2.2.2⟩
 ·have hw1:=hP rfl;clear hP;gi_wp2;obtain⟨W4,I4⟩:=aC (w3.alloc (.cells #[.bool po,.slice Ao no co,.bool afC,.slice afv mo dd] 30));rw[I4];have hb:Below w3.heap.size w3 W4:=by rw[<-I4];exact bel
  have so:Sl RatR W4 [] (some ⟨w3.heap.size,0,none⟩) 1 1 [o]:=by rw[<-I4];exact NH (b_.nil _) _ (af0 J.out.at_.2.1)
  replace J:=Hd (J.out.go hb);refine Cl 8 (few19_any J.out.at_.2.2.1 so) ?_;clear so hb o3;intro e w5 hw;obtain⟨b,rfl,hP,hb⟩:=hw.of;replace J:=Hd (J.out.go hb);clear hb;have o5:=opc J.out.at_.1;cases b
  ·gi_wp2
   iterate 2
    refine⟨trivial,?_⟩;gi_wp2
   go_ret;exact⟨rfl,J.out.at_.2.2.2.2⟩
  have hw2:=hP rfl;clear hP;gi_wp2;refine Cl 12 (vO (M:= []) A n c p (m:Int) _ (b_.nil _) J.out.at_.2.2.1) ?_;rintro e w6 ⟨rfl,hb⟩;replace J:=Hd (J.out.go hb);clear hb o5;have o6:=opc J.out.at_.1;by_cases hc:fC p m=0
  ·rw[hc];rw[<-HL.out.2]at hc;gi_wp2;have hk:=J.out.at_.2.1;obtain⟨_,_,_,_,_,_,e,k1,k2⟩:=hk;cases e;have Y:=MI (p:=o.1.1) (q:=o.2.1) (M:= []) (b_.nil _) k1 k2;refine Cl 14 Y ?_;clear Y k1 k2;rintro e w7 ⟨rfl,hb⟩;replace J:=Hd (J.out.go hb);clear hb o6;have o7:=opc J.out.at_.1;rw[show((o.1.1,o.1.2),(o.2.1,o.2.2))=o from rfl];cases hok:dF o;·rw[show qM false=100 from rfl];clear hc hw1 hw2 hok;gi_wp2;go_ret;exact⟨rfl,J.out.at_.2.2.2.2⟩
   rw[show qM true=0 from rfl];gi_wp2;obtain⟨E,hE⟩:=aC (oC p l 1000);obtain⟨L,hL⟩:=aC (aat p l 1000);obtain⟨r,hr⟩:=aC (Bj p l 1000);refine Cl 9 (afU (fuel:=1000) hw1.r (b_.nil _) J.out.at_.2.2.1 J.out.at_.2.2.2.1 j1 hE hL hr) ?_;intro e w8 hw;unfold af_ at hw;obtain⟨u8,rfl,⟨A8,n8,c8,B8,m8,d8,rfl,s1,s2⟩,hb⟩:=hw;obtain⟨p8,Rn⟩:=aC (r).1.1;obtain⟨q8,hq8⟩:=aC (r).2.1;rw[Rn,hq8];obtain⟨afx,hV8,hb2,F⟩:=fP (w:=w8) ((Fr.nil w8).a w8.heap.size [.bool p8,.slice A8 n8 c8,.bool q8,.slice B8 m8 d8] 30);replace J:=Hd (((J.out.go hb).go hb2).add (fun V hV=>And.intro (F.go hV) (show RV V [] (.agg #[.bool p8,.slice A8 n8 c8,.bool q8,.slice B8 m8 d8]) (r)from⟨_,_,_,_,_,_,by rw[Rn,hq8],(s1.go hb2).go hV,(s2.go hb2).go hV⟩)));clear hb hb2 F s1 s2 Rn hq8;have HR:=fB hE hL hr;have HW:=h_ hw1 hw2 hc hok;clear hE hL hr hw1 hw2 hc hok o7;gi_wp2;obtain⟨sb,hsb⟩:=aC afx.heap.size;have uK:=Hd hsb;clear hsb;have v0:=bQ uK.out (J.out.at_.2.1.aQ 0 0);have v1:=bQ uK.out (J.out.at_.2.1.aQ 0 1);have v2:=bQ uK.out (J.out.at_.2.1.aQ 0 2);have v3:=bQ uK.out (J.out.at_.2.1.aQ 0 3);have zd:afx.drew.heap.size=afx.heap.size:=rfl;have agh:m<=100:=by have:=HW.out.1.nl;have:=HL.out.2;omega
   refine afO [51,52,53,54,55,56,12] (fun f w'=>∃g cg,f 12=.slice (some ⟨g,0,none⟩) (m+1) cg/\bD RatR 30 w' [] afx.heap.size (.slice (some ⟨g,0,none⟩) (m+1) cg) (m+1) (l++ [o])/\Below afx.heap.size afx w') ?_ ?_
   ·refine aP sb 6 (by kernel_rfl) (by kernel_rfl) ?_;refine ay 1 ?_;refine ay 3 ?_;refine oQ 0 [4] (by kernel_rfl) (dN (by decide) rfl ?_ (fun K hK=>?_) (dN (by decide) rfl ?_ (fun K hK=>?_) gU));·exact wy
    rotate_left;·exact wy
    rotate_left;case' _=>
     obtain⟨WA,hWA⟩:=aC (afx.drew.alloc (.cells #[] 30));have ba:Below afx.drew.heap.size afx.drew WA:=by rw[<-hWA];exact bel
     have L_:bD RatR 30 WA [] afx.heap.size (.slice (some ⟨afx.heap.size,0,none⟩) 0 0) 0 []:=by rw[<-hWA];exact bD.lit afx.drew [] (Nat.le_refl _)
     have za:WA.heap.size=afx.heap.size+1:=by rw[<-hWA];simp
     have sa:Sl RatR WA [afx.heap.size] B m d l:=((J.out.at_.2.2.2.2.1.more (Nat.le_refl _)).go (Below.refl _ _).drew).go ba;gi_wp2;refine⟨Keeps.of_below ba _,?_⟩;refine lit ?_;refine oQ 2 [4] (by kernel_rfl) (dN (by decide) rfl ?_ (fun K hK=>?_) (dN (by decide) rfl ?_ (fun K hK=>?_) gU));·exact wy
     rotate_left;·exact wy
     rotate_left;case' _=>
      obtain⟨X1,y1,w10,t1,afR,g1,-⟩:=afQ (t:=23) L_ (by omega) Tryz.underlying23 Iq sa (by omega);have b10:Below afx.heap.size afx w10:=((Below.refl _ _).drew.trans ba).grown g1 (by omega) (fun k hk=>by cases hk;exact Nat.le_refl _);have hlo:=fun k hk=>(afR.lt (k:=k) hk).2;obtain⟨W,hW⟩:=aC (w10.alloc (.cells #[.bool o.1.1,.slice Ao no co,.bool o.2.1,.slice afv mo dd] 30));have afA:Below w10.heap.size w10 W:=by rw[<-hW];exact bel
      obtain⟨y,hy⟩:=aC w10.heap.size;have HZ:=Hd (show NmH afx W (.slice X1 m y1) m y l [.bool o.1.1,.slice Ao no co,.bool o.2.1,.slice afv mo dd]from⟨afR.go afA,by rw[<-hW,<-hy];exact heap_alloc_new w10 _,fun hm=>by have:=hlo y (bJ.1 hm);omega,b10.trans (afA.mono b10.size)⟩);refine aI _ _ _ rfl rfl rfl t1 (hK _ _ ⟨⟨g1.size,fun k hk hs=>g1.block k hk (fun e=>by cases e;have:=uK.out;omega)⟩,?_⟩);clear hK K;refine lit ?_;refine eU 4 fun K hK=>?_;gi_wp2;refine⟨Keeps.of_below afA _,?_⟩;refine lit ?_;try rw[hy]
      clear t1 afR g1 b10 hlo afA hW hy ba L_ sa za
     rotate_left;case' _=>
      obtain⟨afy,hWB⟩:=aC (WA.alloc (.cells #[.bool o.1.1,.slice Ao no co,.bool o.2.1,.slice afv mo dd] 30));have bB:Below WA.heap.size WA afy:=by rw[<-hWB];exact bel
      have zb:afy.heap.size=afx.heap.size+2:=by rw[<-hWB];simp[za]
      obtain⟨X1,y1,W,t1,afR,g1,hv⟩:=afQ (t:=23) (L_.go bB) (by omega) Tryz.underlying23 Iq (sa.go bB) (by omega);obtain⟨y,hy⟩:=aC (afx.heap.size+1);have rb:gG afy y [.bool o.1.1,.slice Ao no co,.bool o.2.1,.slice afv mo dd] 30:=by rw[<-hWB,<-hy,<-za];exact heap_alloc_new WA _
      have HZ:=Hd (show NmH afx W (.slice X1 m y1) m y l [.bool o.1.1,.slice Ao no co,.bool o.2.1,.slice afv mo dd]from⟨afR,rb.grown g1 (fun e=>by cases e;omega),fun hm=>by rcases hv with e|e<;>(rw[bJ,e]at hm;cases hm;omega),(((Below.refl _ _).drew.trans ba).trans (bB.mono ba.size)).grown g1 (by omega) (fun k hk=>by cases hk;exact Nat.le_refl _)⟩);gi_wp2;refine⟨Keeps.of_below bB _,?_⟩;refine lit ?_;refine oQ 2 [] (by kernel_rfl) (dN (by decide) rfl ?_ (fun K hK=>?_) gU);·exact wy
      refine aI _ _ _ rfl rfl rfl t1 (hK _ _ ⟨⟨g1.size,fun k hk hs=>g1.block k hk (fun e=>by cases e;have:=uK.out;omega)⟩,?_⟩);clear hK K;refine lit ?_;try rw[za]
      try rw[hy]
      clear t1 afR g1 hv rb bB hWB zb hy ba L_ sa za
    rotate_left 2;case' _=>
     obtain⟨afy,hWB⟩:=aC (afx.drew.alloc (.cells #[.bool o.1.1,.slice Ao no co,.bool o.2.1,.slice afv mo dd] 30));have bB:Below afx.drew.heap.size afx.drew afy:=by rw[<-hWB];exact bel
     have zb:afy.heap.size=afx.heap.size+1:=by rw[<-hWB];simp
     obtain⟨WA,hWA⟩:=aC (afy.alloc (.cells #[] 30));have ba:Below afy.heap.size afy WA:=by rw[<-hWA];exact bel
     have za:WA.heap.size=afx.heap.size+2:=by rw[<-hWA];simp[zb]
     have L_:bD RatR 30 WA [] afx.heap.size (.slice (some ⟨afy.heap.size,0,none⟩) 0 0) 0 []:=by rw[<-hWA];exact bD.lit afy [] (by omega)
     have sa:Sl RatR WA [afy.heap.size] B m d l:=(((J.out.at_.2.2.2.2.1.more (b:=afy.heap.size) (by omega)).go (Below.refl _ _).drew).go bB).go ba;obtain⟨X1,y1,W,t1,afR,g1,hv⟩:=afQ (t:=23) L_ (by omega) Tryz.underlying23 Iq sa (by omega);have rb:gG WA afx.heap.size [.bool o.1.1,.slice Ao no co,.bool o.2.1,.slice afv mo dd] 30:=gG.go (show gG afy afx.heap.size [.bool o.1.1,.slice Ao no co,.bool o.2.1,.slice afv mo dd] 30 by rw[<-hWB];exact heap_alloc_new afx.drew _) ba (by omega);have bBA:=((Below.refl afx.heap.size afx).drew.trans bB).trans (ba.mono (by omega));have HZ:=Hd (show NmH afx W (.slice X1 m y1) m afx.heap.size l [.bool o.1.1,.slice Ao no co,.bool o.2.1,.slice afv mo dd]from⟨afR,rb.grown g1 (fun e=>by have:=Option.some.inj e;omega),fun hm=>by rcases hv with e|e<;>(rw[bJ,e]at hm;have:=Option.some.inj hm;omega),bBA.grown g1 (by omega) (fun k hk=>by cases hk;omega)⟩);clear zb za;gi_wp2;refine⟨Keeps.of_below bB _,?_⟩;refine lit ?_;refine eU 0 fun K hK=>?_;gi_wp2;refine⟨Keeps.of_below ba _,?_⟩;refine lit ?_;refine oQ 2 [] (by kernel_rfl) (dN (by decide) rfl ?_ (fun K hK=>?_) gU);·exact wy
     refine aI _ _ _ rfl rfl rfl t1 (hK _ _ ⟨⟨g1.size,fun k hk hs=>g1.block k hk (fun e=>by cases e;have:=uK.out;have:=bB.size;omega)⟩,?_⟩);clear hK K;refine lit ?_;clear t1 afR g1 hv rb bB hWB ba L_ sa bBA
    all_goals
     obtain⟨g,cg,wB,t2,af2,b2,k2⟩:=HZ.out.app (af0 J.out.at_.2.2.1) agh;refine oQ 5 [] (by kernel_rfl) (dN (by decide) rfl ?_ (fun K hK=>?_) gU);·exact wy
     refine aI _ _ _ rfl rfl rfl t2 (hK _ _ ⟨uK.out▸k2,?_⟩);clear hK K;refine lit ?_;refine iq 1 ?_;refine jW fun K hK K' hK'=>?_;gi_wp2;refine tail_nil _ ?_;simp only[cu];gi_wp2;exact⟨trivial,afT (R:=fun f w'=>∃g cg,f 12=.slice (some ⟨g,0,none⟩) (m+1) cg/\bD RatR 30 w' [] afx.heap.size (.slice (some ⟨g,0,none⟩) (m+1) cg) (m+1) (l++ [o])/\Below afx.heap.size afx w') (by kernel_rfl) ⟨g,cg,rfl,af2,b2⟩⟩
   rintro f w9 ⟨g,cg,hf,af2,b2⟩;obtain⟨Q,hQ⟩:=aC (m+1);rw[hQ]at hf af2;simp only[oh,Act.put,List.setIfInBounds_toArray,List.set_cons_succ,List.set_cons_zero];rw[hf];obtain⟨k0,hk0,hr0⟩:=afZ ha.1 (show 0<Q by omega);have hQ0:¬(Q:Int)=0:=by omega
   have hQn:¬Q=0:=by omega
   have hwa:IntKind.i64.wrap a=a:=by rw[IntKind.wrap_i64];omega
   have hwk:IntKind.i64.wrap (k0:Int)=(k0:Int):=by rw[IntKind.wrap_i64];omega
   have HN:=Hd2 af2 b2;have J9:=Hd (J.out.go b2);have agj:k0<=m:=by omega
   have hQm:Q<=101:=by omega
   have HQ:=Hd hQ;clear hf v0 v1 v2 v3 af2 b2 hQ hk0;gi_wp2;gi_loopw[13,14] (fun kv i wr=>∃i' k':Nat,i'<=n/\kv=.int .i64 k'/\i=.int .i64 i'/\w9=wr/\k'<=m/\Hid (∀x,x∈p.take i'->x.1=2->x.2.1≠(k':Int))) (fun _ i _=>n-(intOf i).toNat);case atStart=>exact⟨0,k0,Nat.zero_le _,rfl,rfl,rfl,agj,Hd (by simp)⟩
   case round=>
    obtain⟨i',k',hi',rfl,rfl,rfl,hk',hH⟩:=hrel;by_cases hlt:i'<n
    ·obtain⟨x,hx⟩:=dW p i' (by rw[HL.out.1];exact hlt);obtain⟨op,xa,xb,xc,xd,xr⟩:=x;obtain⟨bp,op',_,_,_,_,_,_,rfl,⟨g0,g1,-⟩,-⟩:=J9.out.at_.2.2.2.1.insat hx;have hold:=fun(q:Nat) (hq:op=2->xa≠(q:Int)) (hp:∀x,x∈p.take i'->x.1=2->x.2.1≠(q:Int))=>take_mr (Q:=fun x=>x.1=2->x.2.1≠(q:Int)) hp hx hq;by_cases h2:op=2
     ·subst h2;by_cases hxk:xa=(k':Int)
      ·subst hxk;have HX:=Hd (hold m (fun _ e=>by
        have:=(afH HW.out.2.2.1 (List.mem_of_getElem? hx) rfl).2;have h4:=HL.out.2;simp only at this;omega) (fun y hy e2 e=>by
        have:=(afH HW.out.2.2.1 (List.mem_of_mem_take hy) e2).2;have h4:=HL.out.2;omega))
       clear hx hold;gi_wp2;exact⟨⟨i'+1,m,by omega,rfl,by go_num,trivial,Nat.le_refl _,HX⟩,by simp[intOf];omega⟩
      have HX:=Hd (hold k' (fun _=>hxk) hH.out);have hxb:(xa==(k':Int))=false:=by simpa using hxk
      clear hx hold;gi_wp2;exact⟨⟨i'+1,k',by omega,rfl,by go_num,trivial,hk',HX⟩,by simp[intOf];omega⟩
     have HX:=Hd (hold k' (fun e=>absurd e h2) hH.out);have hob:(op==2)=false:=by simpa using h2
     clear hx hold;gi_wp2;exact⟨⟨i'+1,k',by omega,rfl,by go_num,trivial,hk',HX⟩,by simp[intOf];omega⟩
    ·obtain rfl:i'=n:=by omega
     have HX:=Hd (fun x (hx:x∈p)=>hH.out x (by rwa [List.take_of_length_le (by rw[HL.out.1];exact Nat.le_refl _)]));clear hlt hi' hH;have hgs:afx.heap.size<=g:=(HN.out.1.lt (k:=g) rfl).1;obtain⟨x0,hx0⟩:∃x,(l++ [o])[k']?=some x:=⟨_,List.getElem?_eq_getElem (by rw[List.length_append,HL.out.2,List.length_singleton];omega)⟩;obtain⟨es,hes,hcs⟩:=HN.out.1.get hx0;obtain⟨_,_,_,_,_,_,rfl,-,-⟩:=Bg hes;have d0:=hcs 0 _ rfl;have d1:=hcs 1 _ rfl;have d2:=hcs 2 _ rfl;have d3:=hcs 3 _ rfl;rw[show Rep.sz RatR=4 from rfl]at d0 d1 d2 d3;rw[Nat.add_zero]at d0;obtain⟨U,hU⟩:=aC (fM w9 g (k'*4) [.bool o.1.1,.slice Ao no co,.bool o.2.1,.slice afv mo dd]);obtain⟨abl,kU⟩:=HN.out.1.abz (k:=k') (x:=o) (us:= [.bool o.1.1,.slice Ao no co,.bool o.2.1,.slice afv mo dd]) (by have:=HQ.out;omega) (Rep.keep (Rep.more (af0 J.out.at_.2.2.1) hgs) (Go.Proofs.YtefnknhjlejalaaGreatDoor.Keeps.of_below HN.out.2 _)) hU;have afz:Below afx.heap.size afx U:=by rw[<-hU];exact lq hgs _ _ HN.out.2
     obtain⟨X3,y3,e3,s3⟩:=abl.sl (by omega) (fun _ h=>by cases h);cases e3;replace s3:Sl RatR U [] (some ⟨g,0,none⟩) Q cg (chL l o k'):=s3;have g1:(((w9.setCell ⟨g,k'*4,none⟩ (.bool o.1.1)).setCell ⟨g,k'*4+1,none⟩ (.slice Ao no co)).setCell ⟨g,k'*4+2,none⟩ (.bool o.2.1)).setCell ⟨g,k'*4+3,none⟩ (.slice afv mo dd)=U:=hU;have afw:=Hd ((J.out.go afz).add (fun V hV=>s3.go hV));have afB:=opc J9.out.at_.2.1;have hkQ:(k':Int)<(Q:Int):=by have:=HQ.out;omega
     clear hx0 hes hcs hU abl kU afz s3 J9 J;gi_wp2;gi_loopw[15] (fun i wr=>∃j:Nat,j<=m/\i=.int .i64 j/\Hid ((l.take j).all dF=true)/\Hid (Below U.heap.size U wr)) (fun i _=>m-(intOf i).toNat);case atStart=>exact⟨0,Nat.zero_le _,rfl,Hd (by simp),Hd (Below.refl _ _)⟩
     case round=>
      obtain⟨j,hj,rfl,hA,hbr⟩:=hrel;by_cases hlt:j<m
      ·obtain⟨x,hx⟩:=dW l j (by rw[HL.out.2];exact hlt);obtain⟨b',o',A1,n1,c1,A2,n2,c2,rfl,h0,h1,h2,h3,s1,s2⟩:=(afw.out.go hbr.out).at_.2.2.2.2.2.1.ratat hx;have Y:=MI (p:=x.1.1) (q:=x.2.1) (M:= []) (b_.nil _) s1 s2;rw[show((x.1.1,x.1.2),(x.2.1,x.2.2))=x from rfl]at Y;cases hrk:dF x
       all_goals
        rw[hrk]at Y;have HY:=Hd Y
       ·have hE:E=100:=by
          rw[<-HR.out.1,afP HW.out.2.2.1 (by have:=(HW.out.1.short HW.out.2.2.1).2;omega),afD,if_neg];rw[G_ hx hrk];decide
        subst hE;clear Y hx hrk s1 s2;gi_wp2;refine Cl 14 HY.out ?_;rintro e w11 ⟨rfl,hb⟩;have HB:=Hd ((afw.out.go (hbr.out.trans (hb.mono hbr.out.size))).at_.2.2.2.2.2.2);clear hb;rw[show qM false=100 from rfl];gi_wp2;go_ret;exact⟨by simp,HB.out⟩
       have HA2:=Hd (Dp hA.out hx hrk);clear Y hx hrk s1 s2;gi_wp2;refine Cl 14 HY.out ?_;rintro e w11 ⟨rfl,hb⟩;have HB:=Hd (hbr.out.trans (hb.mono hbr.out.size));clear hb;rw[show qM true=0 from rfl];gi_wp2;exact⟨⟨j+1,by omega,by go_num,HA2,HB⟩,by simp[intOf];omega⟩
      ·obtain rfl:j=m:=by omega
       have hall:l.all dF=true:=by
        have:=hA.out
        rwa [List.take_of_length_le (by rw[HL.out.2];exact Nat.le_refl _)]at this
       obtain⟨f1,⟨f2,f3⟩,f4,f5,f6⟩:=af6 (k:=k') HW.out.1 HW.out.2.1 HW.out.2.2.1 (by rw[HL.out.2];exact hk') HX.out HW.out.2.2.2 hall;obtain rfl:E=0:=HR.out.1.symm.trans f2;have HF:=h_ f1 f4 (f5.trans (f3.symm.trans HR.out.2.1)) (f6.trans HR.out.2.2);have J:=Hd (afw.out.go hbr.out);clear hall f1 f2 f3 f4 f5 f6 hlt hj hA hbr afw;gi_wp2;refine Cl 9 (afU (fuel:=1000) HF.out.1 (b_.nil _) J.out.at_.2.2.2.2.1 J.out.at_.1 j1 HF.out.2.1 HF.out.2.2.1 HF.out.2.2.2) ?_;intro e w16 hw;unfold af_ at hw;obtain⟨u16,rfl,⟨A16,n16,c16,B16,m16,d16,rfl,s1,s2⟩,hb⟩:=hw;obtain⟨p16,agb⟩:=aC (r).1.1;obtain⟨q16,agc⟩:=aC (r).2.1;rw[agb,agc];obtain⟨V16,agk,hb2,F⟩:=fP (w:=w16) ((Fr.nil w16).a w16.heap.size [.bool p16,.slice A16 n16 c16,.bool q16,.slice B16 m16 d16] 30);replace J:=Hd (((J.out.go hb).go hb2).add (fun V hV=>And.intro (F.go hV) (show RV V [] (.agg #[.bool p16,.slice A16 n16 c16,.bool q16,.slice B16 m16 d16]) (r)from⟨_,_,_,_,_,_,by rw[agb,agc],(s1.go hb2).go hV,(s2.go hb2).go hV⟩)));clear hb hb2 F s1 s2 agb agc;have o16:=opc J.out.at_.1.1;have o8:=opc J.out.at_.2.2.1.1;gi_wp2;refine Cl 13 (mg J.out.at_.2.2.1.2 J.out.at_.1.2) ?_;rintro e w17 ⟨rfl,hb⟩;rw[decide_eq_true rfl];replace J:=Hd (J.out.go hb);clear hb;gi_wp2;go_ret;exact⟨by simp,J.out.at_.2.2.2.2.2.2.2⟩
  rw[AQ hc];clear hc hw1 hw2;gi_wp2;refine⟨trivial,?_⟩;gi_wp2;go_ret;exact⟨rfl,J.out.at_.2.2.2.2⟩
end U
end
section
open Go.ChangeShapes Go.WideShapes Go.ChangeAt Go.RowKit Go.Deep Go.Joins
section
set_option maxRecDepth 100000
theorem Tryz.own:ownKnob Tryz.prog.godebug=none:=by kernel_rfl
theorem Tryz.laidOut:laidOutB Tryz.prog=true:=by kernel_rfl
theorem FK:Opens (List Int) Tryz.prog 26:=iI Tryz.underlying26 (by kernel_rfl) (by decide+kernel) (QU Tryz.underlying3)
theorem Ba:Opens lG Tryz.prog 28:=fG Tryz.underlying28 (by kernel_rfl) (aX rfl (by kernel_rfl) (qP Tryz.underlying4) (iL rfl (by kernel_rfl) FK))
theorem Bc:Opens RatR Tryz.prog 30:=fG Tryz.underlying30 (by kernel_rfl) (aX rfl (by kernel_rfl) Ba (iL rfl (by kernel_rfl) Ba))
theorem Na:Opens InsR Tryz.prog 38:=fG Tryz.underlying38 (by kernel_rfl) (aX rfl (by kernel_rfl) (QU Tryz.underlying3) (aX rfl (by kernel_rfl) (QU Tryz.underlying3) (aX rfl (by kernel_rfl) (QU Tryz.underlying3) (aX rfl (by kernel_rfl) (QU Tryz.underlying3) (aX rfl (by kernel_rfl) (QU Tryz.underlying3) (iL rfl (by kernel_rfl) Bc))))))
theorem FW:Opens (List InsR) Tryz.prog 22:=iI Tryz.underlying22 (by kernel_rfl) (by decide+kernel) Na
theorem GI:Opens (List RatR) Tryz.prog 23:=iI Tryz.underlying23 (by kernel_rfl) (by decide+kernel) Bc
section
variable {H:Type}{enc:TypeId×Value→H}{W:World}{v:Value}{d:DataW H}{p:List MemPlace}{b:Nat}
theorem R_(hv:Value.okWide Tryz.prog W .any b 22 v)(h:DataW.Trod enc Tryz.prog W 0 (fun _=>true) true 22 v d p)(hw:∀n,n∈d.weights Tryz.prog 22->n<=reachBytes):
 ∃A n c xs,v=.slice A n c/\Sl InsR W [] A n c xs:=by
 obtain⟨A,n,c,rfl⟩:=okWide_slice Tryz.underlying22 hv;obtain⟨fuel,hf⟩:=h;obtain⟨xs,A',n',c',e,hs⟩:=FW H enc W true fuel _ d p hf hw;exact agl
theorem Si(hv:Value.okWide Tryz.prog W .any b 23 v)(h:DataW.Trod enc Tryz.prog W 0 (fun _=>true) true 23 v d p)(hw:∀n,n∈d.weights Tryz.prog 23->n<=reachBytes):
 ∃A n c xs,v=.slice A n c/\Sl RatR W [] A n c xs:=by
 obtain⟨A,n,c,rfl⟩:=okWide_slice Tryz.underlying23 hv;obtain⟨fuel,hf⟩:=h;obtain⟨xs,A',n',c',e,hs⟩:=GI H enc W true fuel _ d p hf hw;exact agl
theorem af7(hv:Value.okWide Tryz.prog W .any b 30 v)(h:DataW.Trod enc Tryz.prog W 0 (fun _=>true) true 30 v d p)(hw:∀n,n∈d.weights Tryz.prog 30->n<=reachBytes):
 ∃p q A n c B m k x,v=.agg #[.bool p,.slice A n c,.bool q,.slice B m k]/\(x:RatR).1.1=p/\x.2.1=q/\Sl Int W [] A n c x.1.2/\Sl Int W [] B m k x.2.2:=by
 obtain⟨cs,rfl,hsz⟩:=okWide_struct Tryz.underlying30 hv;obtain⟨fuel,hg⟩:=h;rw[show(Value.cells (.agg cs)).toList=cs.toList from rfl]at hg;obtain⟨x,hx⟩:=Bc H enc W true fuel _ d p hg hw;obtain⟨A,n,c,B,m,k,e,h1,h2⟩:=Bg hx;have e2:cs=#[.bool x.1.1,.slice A n c,.bool x.2.1,.slice B m k]:=by apply Array.toList_inj.1;rw[e]
 subst e2;exact⟨_,_,A,n,c,B,m,k,x,rfl,rfl,rfl,h1,h2⟩
end
end
section
set_option maxRecDepth 100000
section
variable {H:Type}{enc:TypeId×Value→H}{W:World}{v:Value}{d:DataW H}{p:List MemPlace}{b:Nat}
theorem agd(hv:Value.okWide Tryz.prog W .any b 5 v)(h:DataW.Trod enc Tryz.prog W 0 (fun _=>true) true 5 v d p):∃x,v=.int .u8 x/\0<=x/\x<=255:=by obtain⟨x,rfl,-,-,wx⟩:=open_int Tryz.underlying5 hv h;have:=bounds_u8 wx;exact⟨x,rfl,by omega,by omega⟩
end
end
end
section
section
set_option maxRecDepth 100000
theorem afS:((Rows.codeNamedRow.inPlace==Tryz.prog.inPlace 5))=true:=by kernel_rfl
theorem afJ:((Rows.codeNamedRow.named==Tryz.prog.varsNamed 5))=true:=by kernel_rfl
end
section
set_option maxRecDepth 100000
theorem afK:((Rows.codeNamedRow.unfollowed==Tryz.prog.unfollowed 5))=true:=by kernel_rfl
theorem afL:((Rows.codeNamedRow.recurses==Tryz.prog.recurses 5))=true:=by kernel_rfl
end
section
set_option maxRecDepth 100000
theorem gB{a b:Bool}(h:a=true)(k:b=true):(a&&b)=true:=by rw[h,k];rfl
theorem kr{p:Prop}(h:p:=by kernel_rfl):p:=h
theorem afE:joinedFacts Tryz.prog 5 Tryz.f5 Rows.codeNamedSpec Rows.codeNamedRow=true:=by unfold joinedFacts;exact gB (gB (gB (gB (gB (gB (gB (gB (gB (gB (gB (gB (gB (gB (gB (gB (gB (gB (gB (gB (gB (gB (gB (gB (gB (gB (gB (gB (gB (gB (gB kr kr) kr) kr) kr) kr) kr) kr) kr) afS) afK) afL) afJ) kr) kr) kr) kr) kr) kr) kr) kr) kr) kr) kr) kr) kr) kr) kr) kr) kr) kr) kr
end
open Go.ChangeShapes Go.WideShapes Go.ChangeAt Go.RowKit
section
set_option maxRecDepth 100000
theorem door_met(os:Os)(args:Array Value):laidMetH Tryz.prog Rows.codeNamedRow.laid ((World.doorLaid Tryz.prog 400 os).forCall (fun _ _=>0) ⟨#[],args, []⟩).memory:=laidMetH_of_parts3 (fuel:=8) (laidMet_of_run' 8 (by kernel_rfl) (by kernel_rfl)) (by kernel_rfl) (by kernel_rfl)
theorem aau{W:World}(h:laidMetH Tryz.prog Rows.codeNamedRow.laid W):Tab W:=by rw[MakeChecks.laidMetH_plain _ _ _ (by kernel_rfl)]at h;exact Lib.tabIs_of_head (t:=271) (e:=5) (g:=0) (n:=256) (rest:= []) (by kernel_rfl) (by kernel_rfl) Tryz.underlying271 Tryz.underlying5 (by kernel_rfl) (by kernel_rfl) (laidMet.tail h)
theorem afF(os:Os)(started:os.Started)(H:Type)(enc:TypeId×Value->H):
 ReturnsInHanded {} Tryz.checked os 5 .any (fun w args=>(Rows.codeNamedSpec.pre enc Tryz.prog Tryz.f5 [] false w args/\laidMetH Tryz.prog Rows.codeNamedRow.laid w)/\sizedMet enc Tryz.prog Tryz.f5 (OpenSpec.ofChange Rows.codeNamedSpec) false w args) (Rows.codeNamedSpec.post enc Tryz.prog Tryz.f5 false true false false):=by
 refine returnsInHanded_of_change_and (C:=Tryz.checked) (X:=fun w _=>laidMetH Tryz.prog Rows.codeNamedRow.laid w) (fun _ _ _ hh h=>h.of_heap hh) Tryz.own started (by kernel_rfl) Tryz.func5 (ChangeSpec.witness_shaped (enc:=enc) (C:=Tryz.checked) (os:=os) (X:=fun w _=>laidMetH Tryz.prog Rows.codeNamedRow.laid w) false (World.doorLaid Tryz.prog 400 os) #[.slice none 0 0,.slice none 0 0,.int .u8 0,.agg #[.bool false,.slice none 0 0,.bool false,.slice none 0 0]] 8 rfl (World.shaped_of_RefB (by kernel_rfl) (by kernel_rfl)) (by kernel_rfl) (by kernel_rfl) (by kernel_rfl) (door_met os _)) ?_;intro W base args ds gs before hval0 hW _ hsz0 hL _;have hsz:(DataW.weightsEach Tryz.prog (Tryz.f5.params.toList++Rows.codeNamedSpec.plain.varTypes Tryz.prog) (ds++gs)).all (· <=reachBytes)=true:=hsz0;have hval:∀(j:Nat) t v,Tryz.f5.params[j]?=some t->args[j]?=some v->Value.okWide Tryz.prog W .any base t v:=hval0;have hW':=hW;have hlt:=hW.lt;obtain⟨p,q,hA0,hV,rfl,hfz,hnd⟩:=hW;have hA:DataW.TrodAll enc Tryz.prog W 0 (fun _=>true) true Tryz.f5.params.toList args.toList ds p:=hA0;rw[Tryz.params5]at hA hval hsz;obtain⟨v0,v1,v2,v3,d0,d1,d2,d3,p0,p1,p2,p3,rfl,rfl,rfl,h0,h1,h2,h3⟩:=trodAll_four hA;obtain⟨rfl,rfl⟩:=trodVars_none hV;clear hA0 hval0 hsz0;have hwt:∀(j:Nat) (t:TypeId) (d:DataW H), [22,23,5,30][j]?=some t-> [d0,d1,d2,d3][j]?=some d->∀n,n∈d.weights Tryz.prog t->n<=reachBytes:=by
  intro j t d ht hd n hn;have:=List.all_eq_true.1 hsz n (DataW.weights_mem_each (j:=j) (by
   rw[List.getElem?_append_left (List.getElem?_eq_some_iff.1 ht).1];exact ht) (by
   rw[List.append_nil];exact hd) n hn)
  simpa using this
 obtain⟨A0,n0,c0,xs0,rfl,hx0⟩:=R_ (hval 0 _ _ rfl rfl) h0 (hwt 0 _ _ rfl rfl);obtain⟨A1,n1,c1,xs1,rfl,hx1⟩:=Si (hval 1 _ _ rfl rfl) h1 (hwt 1 _ _ rfl rfl);obtain⟨x2,rfl,hx2⟩:=agd (hval 2 _ _ rfl rfl) h2;obtain⟨p3b,q3b,A3,n3,c3,B3,m3,k3,y3,rfl,⟨rfl,rfl,ha3,hb3⟩⟩:=af7 (hval 3 _ _ rfl rfl) h3 (hwt 3 _ _ rfl rfl);simp only[List.append_nil]at hW' hlt;refine(U.afI hx0 hx1 hx2 ha3 hb3 (aau hL)).mono fun e W' ⟨he,hb⟩=>?_;subst he;refine⟨_,rfl,_,_,_, [],p0++(p1++(p2++p3)), [],hW',trodAll_mk1 (shut_bool Tryz.underlying4 true),?_,rfl,hb.frame _,fun h=>by cases h⟩;exact trodAll_mk4 (hb.trod Tryz.laidOut (by kernel_rfl) (by decide+kernel) h0 (fun x hx=>hlt x (by simp[hx]))) (hb.trod Tryz.laidOut (by kernel_rfl) (by decide+kernel) h1 (fun x hx=>hlt x (by simp[hx]))) (hb.trod Tryz.laidOut (by kernel_rfl) (by decide+kernel) h2 (fun x hx=>hlt x (by simp[hx]))) (hb.trod Tryz.laidOut (by kernel_rfl) (by decide+kernel) h3 (fun x hx=>hlt x (by simp[hx])))
end
section
set_option maxRecDepth 100000
theorem afM:Rows.CodeNamedSaid:=
 OpenClaim.holds_of_wide 5 Tryz.f5 rfl rfl rfl rfl rfl rfl rfl ⟨rfl,rfl,rfl,rfl,rfl⟩ rfl rfl rfl rfl rfl (by kernel_rfl) Tryz.func5 afE
  (of_decide_eq_true (by kernel_rfl)) (by unfold Func.isWrapper;rw[if_neg (of_decide_eq_false (by kernel_rfl))];exact⟨rfl,rfl⟩)
  (fun os started H enc _=>afF os started H enc)
end
end
end Go.Proofs.YtefnknhjlejalaaGreatDoor
