/- Lemmas and walks; no statement is proved here. -/
import Derived.Test.YtlcgbfkdnmdigaaGreatDoorRows
import Derived.JoinedOf
import Derived.Test.YtlcgbfkdnmdigaaGreatDoorTie
import Derived.Test.YtlcgbfkdnmdigaaGreatDoorCards
import Derived.LaidMore
import Derived.Stop.Joined
import Derived.Stop.LaidErr
import Derived.SevenTiedAt
import Derived.Test.YtlcgbfkdnmdigaaGreatDoorM46
set_option linter.unusedVariables false
set_option linter.unusedSimpArgs false
set_option maxRecDepth 20000
set_option maxHeartbeats 6000000
namespace Go.Proofs.YtlcgbfkdnmdigaaGreatDoor
open Go.Proofs.Tryz
variable {l:List Int}{y:Int}{base g cap:Nat}
section
open Go.RowKit Go.Shelf
section
variable {F:Fence}{n:Nat}{P:Program}{Mr:List Nat}{Q:Exit→Act→World→Prop}
def aaZ(F:Fence)(n:Nat)(P:Program)(Mr:List Nat)(ops:Array Oper)(Q:Exit->Act->World->Prop)(n0 f:Nat)(listed:Array Bool)(a:Act)(w:World)(L:List Nat):Prop:=∀i,i∈L->Arm F n P Mr ops Q n0 f listed a w i
section
variable {ops:Array Oper}{n0 f:Nat}{listed:Array Bool}{a:Act}{w:World}
theorem A_n:aaZ F n P Mr ops Q n0 f listed a w []:=fun _ h=>by cases h
theorem A_c{i:Nat}{L:List Nat}(h:Arm F n P Mr ops Q n0 f listed a w i)(r:aaZ F n P Mr ops Q n0 f listed a w L):aaZ F n P Mr ops Q n0 f listed a w (i::L):=fun j hj=>by
 rcases List.mem_cons.1 hj with e|e;·subst e;exact h
 exact r j e
theorem aa2(L:List Nat)(h:aaZ F n P Mr ops Q n0 f listed a w L)(hs:((Region.ready .any ops listed).all fun i=>L.contains i)=true:=by kernel_rfl)(hne:(Region.ready .any ops listed).isEmpty=false:=by kernel_rfl):qh F n P Mr ops Q n0 (f+1) listed a w:=by
 obtain⟨i,r,hr⟩:∃i r,Region.ready .any ops listed=i::r:=by
  cases hc:Region.ready .any ops listed with
  |nil=>rw[hc]at hne;cases hne
  |cons i r=>exact⟨i,r,rfl⟩
 have key:∀j,j∈i::r->j<n0/\wpOpIn F n P ops Q j (fun a' w'=>Keeps Mr w w'/\qh F n P Mr ops Q n0 f (listed.setIfInBounds j true) a' w') a w:=fun j hj=>by have h1:=List.all_eq_true.1 hs j (by rw[hr];exact hj);have h2:=h j (by simpa using h1);unfold Arm at h2;exact h2 (by rw[hr];simpa using hj)
 unfold qh at key |-;refine⟨by rw[hr];simp,?_⟩;rw[hr];exact key
end
end
attribute [local go_sem] Oper.semAt_some
def zL(x:aJ)(c:dS):Int:=if x.2.2.2.2.1=true then 150 else if eY c.marks=0 then 0 else 160
end
def aat{α:Type}(p:Nat->Bool)(a b:List α):Nat->List α
 |0=> []
 |k+1=>aat p a b k++(if p k then a[k]? else b[k]?).toList
theorem aan{α:Type}{p:Nat->Bool}{a b:List α}(hl:b.length=a.length):∀{k:Nat},k<=a.length->(aat p a b k).length=k/\∀n,n<k->(aat p a b k)[n]?=if p n then a[n]? else b[n]?
 |0,_=>⟨rfl,fun n h=>by omega⟩
 |k+1,hk=>by
  obtain⟨h1,h2⟩:=aan (p:=p) hl (k:=k) (by omega);obtain⟨x,hx⟩:∃x,(if p k then a[k]? else b[k]?)=some x:=by
   split;·exact⟨_,List.getElem?_eq_getElem (by omega)⟩
   exact⟨_,List.getElem?_eq_getElem (by omega)⟩
  rw[aat,hx];refine⟨by simp[h1],fun n hn=>?_⟩;by_cases e:n=k;·subst e;rw[List.getElem?_append_right (by omega),h1,hx];simp
  rw[List.getElem?_append_left (by omega)];exact h2 n (by omega)
theorem aaP{α:Type}{p:Nat->Bool}{a b:List α}{k:Nat}{x y:α}(hx:a[k]?=some x)(hy:b[k]?=some y):aat p a b (k+1)=aat p a b k++ [if p k then x else y]:=by rw[aat,hx,hy];split<;>rfl
theorem sorted_perm{k:List Int}(h:l.Perm k):gI l=gI k:=by
 unfold gI;refine List.Perm.eq_of_pairwise (le:=fun a b=>decide (a<=b)=true) (fun a b _ _ h1 h2=>?_) (List.pairwise_mergeSort (fun a b c h1 h2=>?_) (fun a b=>?_) l) (List.pairwise_mergeSort (fun a b c h1 h2=>?_) (fun a b=>?_) k) (((List.mergeSort_perm _ _).trans h).trans (List.mergeSort_perm _ _).symm);·simp only[decide_eq_true_eq]at h1 h2;omega
 all_goals(simp only[decide_eq_true_eq,Bool.or_eq_true]at*;omega)
def aao(l:List Int)(i k:Nat):List Int:=(l.set i (l.getD k 0)).set k (l.getD i 0)
theorem swap_perm{i k:Nat}(hi:i<l.length)(hk:k<l.length):(aao l i k).Perm l:=by
 unfold aao;have h1:l.getD i 0=l[i]:=by simp[List.getD_eq_getElem?_getD,hi]
 have h2:l.getD k 0=l[k]:=by simp[List.getD_eq_getElem?_getD,hk]
 rw[h1,h2,List.perm_iff_count];intro a;rw[List.count_set (by simpa using hk),List.count_set hi,List.getElem_set];have c1:(if(l[i]==a)=true then 1 else 0)<=l.count a:=by
  split;·rename_i e;rw[beq_iff_eq]at e;exact List.count_pos_iff.2 (by rw[<-e];exact List.getElem_mem hi)
  omega
 have c2:(if(l[k]==a)=true then 1 else 0)<=l.count a:=by
  split;·rename_i e;rw[beq_iff_eq]at e;exact List.count_pos_iff.2 (by rw[<-e];exact List.getElem_mem hk)
  omega
 have e3:(if i=k then l[k]else l[k])=l[k]:=by split<;>rfl
 rw[e3];by_cases e1:(l[i]==a)=true<;>by_cases e2:(l[k]==a)=true<;>simp only[e1,e2,if_true,if_false,Bool.false_eq_true]at c1 c2 |- <;>omega
theorem aaU{c:bT}{k:List Int}(h:l.Perm k):qJ c l=qJ c k:=by have hl:=h.length_eq;have e:gI (l.map (kC c))=gI (k.map (kC c)):=sorted_perm (h.map _);unfold qJ rU;rw[e,hl]
def aam(p:Nat->Bool)(i k:Nat)(c:dS):dS:=⟨aat p c.marks (c.marks.map fun l=>aao l i k) c.marks.length,c.bonus,c.malus,c.prev⟩
section
variable {r:aS}{n:Nat}{c:dS}{p:Nat→Bool}{i k P:Nat}
theorem aaA(hp:∀l,l∈c.marks->l.length=P)(hi:i<P)(hk:k<P){j:Nat}(h:(aam p i k c).marks[j]?=some l):∃l0,c.marks[j]?=some l0/\l.Perm l0:=by
 obtain⟨m1,m2⟩:=aan (p:=p) (a:=c.marks) (b:=c.marks.map fun l=>aao l i k) (by simp) (Nat.le_refl c.marks.length);have hlt:=(List.getElem?_eq_some_iff.1 h).1;have h':(aat p c.marks (c.marks.map fun l=>aao l i k) c.marks.length)[j]?=some l:=h;rw[m2 j (by have h2:j<(aat p c.marks (c.marks.map fun l=>aao l i k) c.marks.length).length:=hlt;omega)]at h';split at h';·exact⟨l,h',List.Perm.refl _⟩
 rw[List.getElem?_map]at h';obtain⟨l0,h0,rfl⟩:=Option.map_eq_some_iff.1 h';have:=hp l0 (List.mem_of_getElem? h0);exact⟨l0,h0,swap_perm (by omega) (by omega)⟩
theorem aas:(aam p i k c).marks.length=c.marks.length:=(aan (p:=p) (a:=c.marks) (b:=c.marks.map fun l=>aao l i k) (by simp) (Nat.le_refl c.marks.length)).1
theorem aaL{x:aJ}(h:f_ r n c)(hx:r.rounds[n]?=some x):∀l,l∈c.marks->(l.length:Int)=x.2.1:=by
 intro l hl;obtain⟨x',hx',hc⟩:=Zi h;obtain rfl:x=x':=by rw[hx]at hx';cases hx';rfl
 unfold kS at hc;simp only[Bool.and_eq_true,decide_eq_true_eq]at hc;obtain⟨⟨⟨⟨⟨c1,-⟩,-⟩,-⟩,c5⟩,-⟩:=hc;obtain⟨j,hj⟩:=List.mem_iff_getElem?.1 hl;have hlt:=(List.getElem?_eq_some_iff.1 hj).1;have h1:=List.all_eq_true.1 c5 _ (List.mem_of_getElem? (oG (List.getElem?_eq_getElem (show j<r.aT.length by omega)) hj));unfold jc at h1;exact of_decide_eq_true (Bool.and_eq_true_iff.1 h1).1
theorem aaQ(hp:∀l,l∈c.marks->l.length=P)(hi:i<P)(hk:k<P)(h:f_ r n c):f_ r n (aam p i k c):=by obtain⟨x,hx,hc⟩:=Zi h;refine⟨h.1,n,x,rfl,hx,?_⟩;unfold kS at hc |-;simp only[Bool.and_eq_true,decide_eq_true_eq]at hc |-;obtain⟨⟨⟨⟨⟨c1,c2⟩,c3⟩,c4⟩,c5⟩,c6⟩:=hc;refine⟨⟨⟨⟨⟨by rw[aas,c1],c2⟩,c3⟩,c4⟩,?_⟩,c6⟩;rw[List.all_eq_true]at c5 |-;intro q hq;obtain⟨j,hj⟩:=List.mem_iff_getElem?.1 hq;obtain⟨q1,q2⟩:=q;rw[List.getElem?_zip_eq_some]at hj;obtain⟨l0,h0,hpm⟩:=aaA hp hi hk hj.2;have h1:=c5 _ (List.mem_of_getElem? (oG hj.1 h0));unfold jc at h1 |-;rw[Bool.and_eq_true,decide_eq_true_eq,List.all_eq_true]at h1 |-;exact⟨by rw[hpm.length_eq];exact h1.1,fun m hm=>h1.2 m (hpm.mem_iff.1 hm)⟩
theorem aaV(hp:∀l,l∈c.marks->l.length=P)(hi:i<P)(hk:k<P)(h:yI r c):yI r (aam p i k c):=by refine⟨h.fw,h.parts,⟨by rw[aas];exact h.lens.1,h.lens.2.1,h.lens.2.2.1,h.lens.2.2.2⟩,fun l hl=>?_,h.prev⟩;obtain⟨j,hj⟩:=List.mem_iff_getElem?.1 hl;obtain⟨l0,h0,hpm⟩:=aaA hp hi hk hj;rw[hpm.length_eq];exact h.mark l0 (List.mem_of_getElem? h0)
theorem aaI(hp:∀l,l∈c.marks->l.length=P)(hi:i<P)(hk:k<P):jq r (aam p i k c)=jq r c:=by
 unfold jq;apply List.ext_getElem?;intro j;rw[List.getElem?_map,List.getElem?_map];have hl:=aas (p:=p) (i:=i) (k:=k) (c:=c);by_cases hj:j<c.marks.length
 ·obtain⟨l,hlj⟩:=dW (aam p i k c).marks j (by omega);obtain⟨l0,h0,hpm⟩:=aaA hp hi hk hlj;by_cases hc:j<r.aT.length;·have hcj:=List.getElem?_eq_getElem hc;rw[oG hcj hlj,oG hcj h0];simp only[Option.map_some];rw[aaU hpm]
  rw[List.getElem?_eq_none (by rw[List.length_zip];omega),List.getElem?_eq_none (by rw[List.length_zip];omega)]
 rw[List.getElem?_eq_none (by rw[List.length_zip];omega),List.getElem?_eq_none (by rw[List.length_zip];omega)]
theorem aaB:∀(s:List (List Int)),eY s=(s.map zG).sum
 | []=>rfl
 |l::s=>by rw[eY,aaB s];rfl
theorem aaR(hp:∀l,l∈c.marks->l.length=P)(hi:i<P)(hk:k<P):eY (aam p i k c).marks=eY c.marks:=by
 rw[aaB,aaB];congr 1;apply List.ext_getElem?;intro j;rw[List.getElem?_map,List.getElem?_map];have hl:=aas (p:=p) (i:=i) (k:=k) (c:=c);by_cases hj:j<c.marks.length;·obtain⟨l,hlj⟩:=dW (aam p i k c).marks j (by omega);obtain⟨l0,h0,hpm⟩:=aaA hp hi hk hlj;rw[hlj,h0];simp only[Option.map_some];rw[show zG l=zG l0 from List.perm_iff_count.1 hpm _]
 rw[List.getElem?_eq_none (by omega),List.getElem?_eq_none (by omega)]
theorem aaW(hp:∀l,l∈c.marks->l.length=P)(hi:i<P)(hk:k<P):kW r (aam p i k c)=kW r c:=by unfold kW;rw[aaI hp hi hk];rfl
end
section
open Go.RowKit Go.Shelf
attribute [local go_sem] Oper.semAt_some
def zRR:fC:=((false, []),(false, []))
theorem aaO{w:World}{M:List Nat}:RV w M zQ zRR:=⟨none,0,0,none,0,0,rfl,Sl.nil0,Sl.nil0⟩
def aap(r:aS)(x:aJ)(c:dS):fC:=if zL x c=0 then jd (rG (kW r c) (au x))else zRR
section
variable {M:List Nat}{r:aS}{s1 s2 s3 s4 s5 s6 s7:dK}{c:dS}{t1 t2 t3 t4:dK}{w:World}{x:aJ}{i:Nat}
theorem aaE(hr:dG w M r s1 s2 s3 s4 s5 s6 s7)(hc:jE w M c t1 t2 t3 t4)(hg:f_ r i c)(hw:yI r c)(hx:r.rounds[i]?=some x)(ht:Tab w)(hM:b_ M w):
 Calls prog 11 #[.agg (aV r s1 s2 s3 s4 s5 s6 s7).toArray,.int .i64 i,.agg (dI t1 t2 t3 t4).toArray] w fun e w'=>∃u,e=.returned (.tuple #[u,.int .i64 (zL x c)])/\RV w' M u (aap r x c)/\Below w.heap.size w w':=by
 unfold aap zL
 cases hp:x.2.2.2.2.1 with
 |true=>refine(PS hr hc hg hw hx hp ht hM).mono fun e w' h=>⟨_,h.1,?_,h.2⟩;exact aaO
 |false=>
  by_cases hm:eY c.marks=0;·refine(Nj hr hc hg hw hx hp hm ht hM).mono fun e w' h=>?_;obtain⟨u,rfl,z,hb⟩:=h;rw[if_neg (by simp),if_pos hm];exact⟨u,rfl,z.rv,hb⟩
  ·refine(ED hr hc hg hw hx hp hm ht hM).mono fun e w' h=>?_;rw[if_neg (by simp),if_neg hm];exact⟨_,h.1,aaO,h.2⟩
def aaX(c:dS):Int:=if eY c.marks=0 then 0 else 160
def aaY(r:aS)(c:dS):List fC:=if eY c.marks=0 then(jq r c).map jd else []
theorem aaJ(hr:dG w M r s1 s2 s3 s4 s5 s6 s7)(hc:jE w M c t1 t2 t3 t4)(hg:f_ r i c)(hw:yI r c)(ht:Tab w)(hM:b_ M w):
 Calls prog 10 #[.agg (aV r s1 s2 s3 s4 s5 s6 s7).toArray,.int .i64 i,.agg (dI t1 t2 t3 t4).toArray] w fun e w'=>∃A n cp,e=.returned (.tuple #[.slice A n cp,.int .i64 (aaX c)])/\Sl fC w' M A n cp (aaY r c)/\Below w.heap.size w w':=by
 unfold aaX aaY;by_cases hm:eY c.marks=0;·rw[if_pos hm,if_pos hm];exact Iu hr hc hg hm hw.lens.1 hw.mark ht hM
 ·rw[if_neg hm,if_neg hm];refine(EF hr hc hg hm hw.lens.1 hw.mark ht hM).mono fun e w' h=>⟨_,_,_,h.1,Sl.nil0,h.2⟩
end
theorem aaG{M N:List Nat}{A B:Option Addr}{n c m d:Nat}{xs ys:List fC}{w:World}(hx:Sl fC w M A n c xs)(hy:Sl fC w N B m d ys)(e:xs=ys):
 CB 16 #[.slice A n c,.slice B m d] (.bool true) w:=by
 refine wid ?_;subst e;have l1:=hx.len;have l2:=hy.len;obtain rfl:n=m:=by omega
 have hsm:=hx.small;have H:=Hd2 hx hy;clear hx hy l2;refine ent func16 rfl ntmps16 ?_;gi_wp2;gi_loopw[5] (fun i wr=>∃k:Nat,k<=n/\i=.int .i64 k/\Hid (Below w.heap.size w wr)) (fun i _=>n-(intOf i).toNat);case atStart=>exact⟨0,Nat.zero_le _,rfl,Hd (Below.refl _ _)⟩
 case round=>
  obtain⟨k,hk,rfl,hB⟩:=hrel;by_cases hlt:k<n
  ·obtain⟨x,hxk⟩:=dW xs k (by omega);obtain⟨b1,o1,A1,n1,c1,A2,n2,c2,hA1,g0,g1,g2,g3,gs1,gs2⟩:=(H.out.1.go hB.out).MG hxk;obtain⟨b2,o2,A3,n3,c3,A4,n4,c4,hA2,f0,f1,f2,f3,fs1,fs2⟩:=(H.out.2.go hB.out).MG hxk;subst hA1;subst hA2;have x0:=ah g0;have x1:=ah g1;have x2:=ah g2;have x3:=ah g3;have y0:=ah f0;have y1:=ah f1;have y2:=ah f2;have y3:=ah f3;have XS:=zK (w:=wr.drew) (va:=.agg #[.bool x.1.1,.slice A1 n1 c1,.bool x.2.1,.slice A2 n2 c2]) (vb:=.agg #[.bool x.1.1,.slice A3 n3 c3,.bool x.2.1,.slice A4 n4 c4]) ⟨_,_,_,_,_,_,rfl,gs1.go (Below.refl wr.heap.size wr).drew,gs2.go (Below.refl wr.heap.size wr).drew⟩ ⟨_,_,_,_,_,_,rfl,fs1.go (Below.refl wr.heap.size wr).drew,fs2.go (Below.refl wr.heap.size wr).drew⟩;rw[decide_eq_true rfl]at XS;have HXS:=Hd XS;clear hxk XS g0 g1 g2 g3 f0 f1 f2 f3 gs1 gs2 fs1 fs2;gi_wp2;refine ak [] (List.range 10) (by kernel_rfl) (by kernel_rfl) ?_;refine eH ?_;refine aH fun K hK=>aA rfl rfl wy fun K' hK'=>?_;gi_wp2;refine Cl 14 HXS.out ?_;rintro e w4 ⟨rfl,hb3⟩;have HB:=Hd (hB.out.trans (((Below.refl wr.heap.size wr).drew.trans hb3).mono hB.out.size));refine hK' _ _ ⟨?_,hK _ _ ?_⟩;clear hK' K' hK K;·exact Keeps.of_below hb3 _
   clear hb3 x0 x1 x2 x3 y0 y1 y2 y3;refine lit ?_;refine eH ?_;refine aK ?_;refine lit ?_;gi_wp2;exact⟨⟨k+1,by omega,by go_num,HB⟩,by simp[intOf];omega⟩
  ·gi_wp2;go_ret;exact⟨rfl,hB.out⟩
section
variable {r:aS}{s1 s2 s3 s4 s5 s6 s7:dK}{c:dS}{t1 t2 t3 t4:dK}{w:World}
theorem aaC{i a b:Int}(hr:dG w [] r s1 s2 s3 s4 s5 s6 s7)(hc:jE w [] c t1 t2 t3 t4)(ht:Tab w)(hn:yI r c->¬f_ r i c):
 CB 4 #[.agg (aV r s1 s2 s3 s4 s5 s6 s7).toArray,.int .i64 i,.agg (dI t1 t2 t3 t4).toArray,.int .u8 a,.int .u8 b,.int .u8 y] (.bool true) w:=by
 refine wid ?_;obtain⟨W1,hW1,F1⟩:=dR (((Fr.nil w).a w.heap.size (aV r s1 s2 s3 s4 s5 s6 s7) 28).a (w.heap.size+1) (dI t1 t2 t3 t4) 32);have o1:=aW F1;have F:=Hd F1;have H:=fB hr hc ht;have HN:=Hd hn;clear F1 hr hc ht hn;refine ent func4 rfl ntmps4 ?_
 gi_wp2_with (first
  |(have g:=G2.out;clear g;have X:=tY (i:=i) (H.out.1.go F.out.bl) (H.out.2.1.go F.out.bl) (HB.out (by trivial)).fw.1 (b_.nil _);refine Cl 9 X ?_;clear X;rintro e w4 hw;obtain⟨K,rfl,hK,hb2⟩:=hw.of;replace F:=Hd (F.out.go hb2);have hK0:K≠0:=fun e=>HN.out (HB.out (by trivial)) (hK e);have hkb:(K !=0)=true:=bne_iff_ne.2 hK0;clear hb2 hw hK hK0)
  |(have g:=G1.out;clear g;have X:=zH (H.out.1.go F.out.bl) (H.out.2.1.go F.out.bl);refine Cl 8 X ?_;clear X;rintro e w3 hw;obtain⟨b,rfl,hb,hb2⟩:=hw.of;replace F:=Hd (F.out.go hb2);have o3:=aW F.out;have HB:=Hd hb;have G2:=Hd trivial;clear hb hb2 hw;cases b)
  |(refine Cl 7 (EI (tab_below H.out.2.2 F.out.bl)) ?_;rintro e w2 ⟨rfl,hb2⟩;replace F:=Hd (F.out.go hb2);have o2:=aW F.out;have G1:=Hd trivial;clear hb2)
  |(refine⟨trivial,?_⟩))
 all_goals first
  |exact(gK (by assumption)).elim
  |(go_ret;exact⟨rfl,F.out.bl⟩)
end
end
section
open Go.RowKit
structure VbR(α:Type) [kJ α] (e:TypeId)(M:List Nat)(w u:World)(L:List (Nat×List Value))(bl j:Nat)(C:Value->List Value)(v:Value)(xs:List α)(wr:World):Prop where
 own:bD α e wr (bl::M) u.heap.size v xs.length xs
 fr:Fr w wr (L++ [(bl,C v)])
 sz:u.heap.size<=wr.heap.size
 wu:w.heap.size<=u.heap.size
 bM:b_ M w
 hL:∀b vs,(b,vs)∈L->b<u.heap.size/\b≠bl
 hb:bl<u.heap.size
 hC:∀v,(C v)[j]?=some v
 hS:∀v v',(C v).set j v'=C v'
 kp:Keeps [bl] u wr
section
variable {α:Type} [kJ α] {e:TypeId}{M:List Nat}{w u wr wz:World}{L:List (Nat×List Value)}{bl j:Nat}{C:Value→List Value}{v:Value}{xs:List α}
theorem VbR.go(h:VbR α e M w u L bl j C v xs wr)(hb:Below wr.heap.size wr wz):VbR α e M w u L bl j C v xs wz:=⟨h.own.go hb,h.fr.go hb,Nat.le_trans h.sz hb.size,h.wu,h.bM,h.hL,h.hb,h.hC,h.hS,h.kp.trans (Keeps.of_below hb _)⟩
theorem VbR.nil(h:Fr w u (L++ [(bl,C (.slice none 0 0))]))(hL:∀b vs,(b,vs)∈L->b≠bl)(hM:b_ M w)(hC:∀v,(C v)[j]?=some v)(hS:∀v v',(C v).set j v'=C v'):VbR α e M w u L bl j C (.slice none 0 0) [] u:=⟨bD.nil _ _ _,h,Nat.le_refl _,h.bl.size,hM,fun b vs hm=>⟨h.lt b vs (by simp[hm]),hL b vs hm⟩,h.lt bl (C (.slice none 0 0)) (by simp),hC,hS,Keeps.refl _ _⟩
theorem VbR.bel(h:VbR α e M w u L bl j C v xs wr):b_ (bP v++bl::M) wr:=fun q hq=>by
 rcases List.mem_append.1 hq with hq|hq;·exact(h.own.lt (bJ.1 hq)).2
 rcases List.mem_cons.1 hq with rfl|hq;·exact Nat.lt_of_lt_of_le h.hb h.sz
 exact Nat.lt_of_lt_of_le (h.bM q hq) (Nat.le_trans h.wu h.sz)
theorem VbR.ge(h:VbR α e M w u L bl j C v xs wr):∀q,q∈bP v++ [bl]->w.heap.size<=q:=fun q hq=>by
 rcases List.mem_append.1 hq with hq|hq;·have:=(h.own.lt (bJ.1 hq)).1;exact Nat.le_trans h.wu this
 rw[List.mem_singleton]at hq;subst hq;exact h.fr.ge _ (C v) (by simp)
theorem VbR.no(h:VbR α e M w u L bl j C v xs wr):∀q,q<u.heap.size->q∉bP v:=fun q hq hm=>by have:=(h.own.lt (bJ.1 hm)).1;omega
theorem VbR.app{t:TypeId}(h:VbR α e M w u L bl j C v xs wr){x:α}{cs:List Value}(ht:prog.underlying t=some (.slice e))(hi:iU e (Rep.sz α))(hx:Rep.rd wr (bP v++bl::M) x cs)(hn:xs.length<=1000):
 ∃v' w',(Builtin.append_ #[t,t] t #[v,.slice (some ⟨wr.heap.size,0,none⟩) 1 1]).run prog (wr.alloc (.cells cs.toArray e))=.ok v' w'/\w'.cell? ⟨bl,j,none⟩=some v/\w'.frozen? ⟨bl,j,none⟩=false/\VbR α e M w u L bl j C v' (xs++ [x]) (w'.setCell ⟨bl,j,none⟩ v')/\Keeps (bP v) (wr.alloc (.cells cs.toArray e)) w':=by
 obtain⟨v',w',r1,r2,r3,r4,r5⟩:=h.own.app1 ht hi h.sz (fun q hq=>h.bel q (List.mem_append_right _ hq)) hx (by omega);have hf:=h.fr.ZI r3 (fun g hg=>⟨Nat.le_trans h.wu (h.own.lt hg).1,fun b vs hm e=>by
  have h1:=(h.own.lt hg).1;rcases List.mem_append.1 hm with hm|hm;·have:=(h.hL b vs hm).1;omega
  simp only[List.mem_singleton,Prod.mk.injEq]at hm;have:=h.hb;omega⟩)
 have hc:=hf.at_ bl (C v) (by simp) j v (h.hC v);have hbo:∀g,v'.ownBlock=some g->g∉ [bl]:=fun g hg hm=>by have h1:=(r2.lt hg).1;simp only[List.mem_singleton]at hm;have:=h.hb;omega
 have kp:Keeps [bl] w' (w'.setCell ⟨bl,j,none⟩ v'):=(Keeps.refl [bl] w').setCell (p:=⟨bl,j,none⟩) (.inl (by simp)) _;have hsz:wr.heap.size<=w'.heap.size:=r3.size;refine⟨v',w',r1,hc.1,hc.2,⟨?_,?_,Nat.le_trans h.sz (Nat.le_trans hsz kp.size),h.wu,h.bM,h.hL,h.hb,h.hC,h.hS,(h.kp.grown r3 fun g hg=>.inr (h.own.lt hg).1).setCell (p:=⟨bl,j,none⟩) (.inl (by simp)) _⟩,r5⟩;·have:=r2.keepN kp (fun x hx=>by simp at hx;simp[hx]) hbo;simpa using this
 ·have:=hf.qY (fun c vs hm=>(h.hL c vs hm).2) (h.hC v) v'
  rwa [h.hS]at this
theorem VbR.put(h:VbR α e M w u L bl j C v xs wr){k:Nat}(hk:k<xs.length):∃g cap,v=.slice (some ⟨g,0,none⟩) xs.length cap/\g∉bl::M/\u.heap.size<=g/\
 (∀i,i<Rep.sz α->∃u0,wr.cell? ⟨g,k*Rep.sz α+i,none⟩=some u0/\wr.frozen? ⟨g,k*Rep.sz α+i,none⟩=false)/\
 ∀{x:α}{us:List Value}{w':World},Rep.rd wr (g::bl::M) x us->fM wr g (k*Rep.sz α) us=w'->VbR α e M w u L bl j C v (xs.set k x) w':=by
 obtain⟨g,cap,rfl⟩:=qA h.own (by omega);obtain⟨h1,h2⟩:=h.own.lt (k:=g) rfl;have hg:g∉bl::M:=fun hm=>by
  rcases List.mem_cons.1 hm with rfl|hm;·have:=h.hb;omega
  have:=h.bM g hm;have:=h.wu;omega
 refine⟨g,cap,rfl,hg,h1,fun i hi=>?_,fun hx hw=>?_⟩;·obtain⟨es,a,b⟩:=h.own.get (List.getElem?_eq_getElem hk);have hl:=Rep.len a;have:=b i (es[i]'(by omega)) (List.getElem?_eq_getElem _);exact⟨_,this.1,this.2⟩
 ·obtain⟨a,b⟩:=h.own.setN hk hx hw;have kb:KB g wr _:=⟨b,by rw[<-hw];exact lq (Nat.le_refl g) _ _ (Below.refl _ _)⟩;refine⟨by rw[List.length_set];exact a,h.fr.kb kb (Nat.le_trans h.wu h1) (fun c vs hm=>?_),Nat.le_trans h.sz b.size,h.wu,h.bM,h.hL,h.hb,h.hC,h.hS,⟨Nat.le_trans h.kp.size b.size,fun q hq hm=>(b.block q (Nat.lt_of_lt_of_le hq h.sz) (by rw[List.mem_singleton];omega)).trans (h.kp.block q hq hm)⟩⟩;rcases List.mem_append.1 hm with hm|hm;·have:=(h.hL c vs hm).1;omega
  simp only[List.mem_singleton,Prod.mk.injEq]at hm;have:=h.hb;omega
theorem VbR.sl(h:VbR α e M w u L bl j C v xs wr)(hn:xs.length<=1000):∃A c,v=.slice A xs.length c/\Sl α wr (bl::M) A xs.length c xs:=h.own.sl (by omega) (fun k hk=>by
 rcases List.mem_cons.1 hk with rfl|hk;·exact h.hb
 exact Nat.lt_of_lt_of_le (h.bM k hk) h.wu)
end
open Go.Shelf
attribute [local go_sem] Oper.semAt_some
theorem aaM:(prog.info? 26).map (fun i=>(i.zero,i.size,i.bytes))=some (some (.slice none 0 0),1,24):=by kernel_rfl
theorem aaK:iU 26 (Rep.sz (List Int)):=iU.mk' aaM rfl (by omega)
theorem aaS:iU 3 (Rep.sz Int):=iU.mk' qo rfl (by omega)
theorem tmod_lt{a:Int}(h0:0<=a){n:Nat}(hn:0<n):∃k:Nat,k<n/\a.tmod (n:Int)=(k:Int):=by have h1:0<=a.tmod (n:Int):=Int.tmod_nonneg _ h0;have h2:a.tmod (n:Int)<(n:Int):=Int.tmod_lt_of_pos _ (by omega);exact⟨(a.tmod (n:Int)).toNat,by omega,by omega⟩
def aak(q p:Nat)(n:Nat):Bool:= !(decide (n=q)||decide (q=p))
def JnR(w u:World)(L:List (Nat×List Value))(bl:Nat)(C:Value->List Value)(F:Nat->List (List Int))(n:Nat)(i:Value)(wr:World):Prop:=∃(k:Nat) (v:Value),k<=n/\i=.int .i64 k/\Hid (VbR (List Int) 26 [] w u L bl 0 C v (F k) wr)
attribute [irreducible] JnR
theorem aaH{e:TypeId}{w:World}{M:List Nat}{n:Nat}{xs:List Int}(h:bD Int e w M base (.slice (some ⟨g,0,none⟩) n cap) n xs){k:Nat}(hk:k<n):
 w.cell? ⟨g,k,none⟩=some (.int .i64 (xs.getD k 0))/\w.frozen? ⟨g,k,none⟩=false/\i64 (xs.getD k 0):=by
 have hl:=h.len;have hg:xs.getD k 0=xs[k]'(by omega):=by simp[List.getD_eq_getElem?_getD,show k<xs.length by omega]
 obtain⟨es,⟨rfl,hi⟩,b⟩:=h.get (List.getElem?_eq_getElem (show k<xs.length by omega));have:=b 0 _ rfl;rw[hg];exact⟨by simpa[Rep.sz]using this.1,by simpa[Rep.sz]using this.2,hi⟩
theorem aav{e:TypeId}{w:World}{M:List Nat}{n:Nat}{xs:List Int}(h:bD Int e w M base (.slice (some ⟨g,0,none⟩) n cap) n xs){k:Nat}(hk:k<n){x:Int}(hx:i64 x):bD Int e (w.setCell ⟨g,k,none⟩ (.int .i64 x)) M base (.slice (some ⟨g,0,none⟩) n cap) n (xs.set k x):=(h.setN hk ⟨rfl,hx⟩ (by show w.setCell ⟨g,k*1,none⟩ _=_;rw[Nat.mul_one])).1
section
variable {r:aS}{s1 s2 s3 s4 s5 s6 s7:dK}{c:dS}{t1 t2 t3 t4:dK}{w:World}{x:aJ}{i:Nat}
theorem aaT{a b:Int}(ha:0<=a/\a<=255)(hb:0<=b/\b<=255)(hy:0<=y/\y<=255)(hr:dG w [] r s1 s2 s3 s4 s5 s6 s7)(hc:jE w [] c t1 t2 t3 t4)(ht:Tab w)(hf:yI r c)(hg:f_ r i c)(hx:r.rounds[i]?=some x):
 CB 4 #[.agg (aV r s1 s2 s3 s4 s5 s6 s7).toArray,.int .i64 i,.agg (dI t1 t2 t3 t4).toArray,.int .u8 a,.int .u8 b,.int .u8 y] (.bool true) w:=by
 refine wid ?_;obtain⟨A5,q5,c5⟩:=s5;obtain⟨B1,p1,d1⟩:=t1;obtain⟨B2,p2,d2⟩:=t2;obtain⟨B3,p3,d3⟩:=t3;obtain⟨B4,p4,d4⟩:=t4;have h5:Sl aJ w [] A5 q5 c5 r.rounds:=hr.rounds;have m1:Sl (List Int) w [] B1 p1 d1 c.marks:=hc.marks;have hi5:i<q5:=by rw[<-h5.len];exact(List.getElem?_eq_some_iff.1 hx).1
 have JC:=h5.small;have YZ:=m1.small;obtain⟨b5,o5,-,-,-,Zm,⟨-,z1,-⟩,-⟩:=h5.iw hx;subst Zm;have aa3:b5<w.heap.size:=World.block_lt_of_cell? w _ z1;have aa0:=aaL hg hx;have hP1:=(hg.1.2.1.rounds x (List.mem_of_getElem? hx)).1;obtain⟨P,hP⟩:∃P:Nat,x.2.1=(P:Int):=⟨x.2.1.toNat,by omega⟩;rw[hP]at z1 hP1 aa0;have aaF:∀l,l∈c.marks->l.length=P:=fun l hl=>by have:=aa0 l hl;omega
 obtain⟨i1,hi1,hr1⟩:=tmod_lt ha.1 (show 0<P by omega);obtain⟨i2,hi2,hr2⟩:=tmod_lt hb.1 (show 0<P by omega);have aa5:p1<=70:=by have h1:=hf.lens.1;have h2:=m1.len;omega
 obtain⟨Q,hQ⟩:=aC (p1+1);obtain⟨q,hq,hr3⟩:=tmod_lt hy.1 (show 0<Q by omega);have HJ:=oK (aaQ (p:=aak q p1) aaF hi1 hi2 hg) (aaV (p:=aak q p1) aaF hi1 hi2 hf) (aaR (p:=aak q p1) aaF hi1 hi2) (aaW (r:=r) (p:=aak q p1) aaF hi1 hi2) aaF;have hl1:=m1.len;have HM:=Hd m1;have hP0:¬(P:Int)=0:=by omega
 have hQ0:¬(Q:Int)=0:=by omega
 have hPn:¬P=0:=by omega
 have aa4:P<=256:=by omega
 have hQn:¬Q=0:=by omega
 have hwa:IntKind.i64.wrap a=a:=by rw[IntKind.wrap_i64];omega
 have hwb:IntKind.i64.wrap b=b:=by rw[IntKind.wrap_i64];omega
 have hwy:IntKind.i64.wrap y=y:=by rw[IntKind.wrap_i64];omega
 have hw1:IntKind.i64.wrap (i1:Int)=(i1:Int):=by rw[IntKind.wrap_i64];omega
 have hw2:IntKind.i64.wrap (i2:Int)=(i2:Int):=by rw[IntKind.wrap_i64];omega
 have aa6:IntKind.i64.wrap (q:Int)=(q:Int):=by rw[IntKind.wrap_i64];omega
 have hwQ:IntKind.i64.wrap ((p1:Int)+1)=(Q:Int):=by rw[IntKind.wrap_i64];omega
 have HQ:=Hd2 hQ hl1;obtain⟨W1,hW1,F1⟩:=dR (((Fr.nil w).a w.heap.size (aV r s1 s2 s3 s4 ⟨some ⟨b5,o5,none⟩,q5,c5⟩ s6 s7) 28).a (w.heap.size+1) (dI ⟨B1,p1,d1⟩ ⟨B2,p2,d2⟩ ⟨B3,p3,d3⟩ ⟨B4,p4,d4⟩) 32);have o1:=aW F1;have F:=Hd F1;have H:=oK hr hc ht hf hg;have HX:=Hd hx;clear F1 hr hc ht hf hg hx h5 m1 aa0 aaF hP hP1 ha hb hy hQ hl1;refine ent func4 rfl ntmps4 ?_
 gi_wp2_with (first
  |(have g:=G2.out;clear g;have X:=tY (i:=(i:Int)) (H.out.1.go F.out.bl) (H.out.2.1.go F.out.bl) H.out.2.2.2.1.fw.1 (b_.nil _);refine Cl 9 X ?_;clear X;rintro e w4 hw;obtain⟨K,rfl,hK,hb2⟩:=hw.of;replace F:=Hd (F.out.go hb2);have o4:=aW F.out;have y1:=(F.out.bl.cell (p:=⟨b5,_,none⟩) aa3).trans z1;clear hb2 hw hK;rcases MO K with rfl|hkb)
  |(have g:=G1.out;clear g;have X:=zH (H.out.1.go F.out.bl) (H.out.2.1.go F.out.bl);refine Cl 8 X ?_;clear X;rintro e w3 hw;obtain⟨b,rfl,hb,hb2⟩:=hw.of;replace F:=Hd (F.out.go hb2);have o3:=aW F.out;have G2:=Hd trivial;clear hb hb2 hw;cases b)
  |(refine Cl 7 (EI (tab_below H.out.2.2.1 F.out.bl)) ?_;rintro e w2 ⟨rfl,hb2⟩;replace F:=Hd (F.out.go hb2);have o2:=aW F.out;have G1:=Hd trivial;clear hb2)
  |(refine⟨trivial,?_⟩))
 try any_goals(exact(gK (by assumption)).elim)
 any_goals(go_ret;exact⟨rfl,F.out.bl⟩)
 have aa7:w.heap.size+1<w4.heap.size:=F.out.mJ 1;obtain⟨W6,X0,F6⟩:=dR (F.out.a w4.heap.size [.slice B1 p1 d1,.slice B2 p2 d2,.slice B3 p3 d3,.slice B4 p4 d4] 32);have o6:=aW F6;obtain⟨W7,XM⟩:=aC (W6.setCell ⟨w4.heap.size,0,none⟩ (.slice none 0 0));obtain⟨L,hL'⟩:∃L:List (Nat×List Value), [(w.heap.size,aV r s1 s2 s3 s4 ⟨some ⟨b5,o5,none⟩,q5,c5⟩ s6 s7),(w.heap.size+1,dI ⟨B1,p1,d1⟩ ⟨B2,p2,d2⟩ ⟨B3,p3,d3⟩ ⟨B4,p4,d4⟩)]=L:=⟨_,rfl⟩;have HLL:=Hd (show ∀V cs,Fr w V (L++ [(w4.heap.size,cs)])->Fr w V [(w.heap.size,aV r s1 s2 s3 s4 ⟨some ⟨b5,o5,none⟩,q5,c5⟩ s6 s7),(w.heap.size+1,dI ⟨B1,p1,d1⟩ ⟨B2,p2,d2⟩ ⟨B3,p3,d3⟩ ⟨B4,p4,d4⟩),(w4.heap.size,cs)]from fun V cs h=>by rw[<-hL']at h;exact h);have ZB:∀b vs,(b,vs)∈L->b≠w4.heap.size:=fun b vs hm=>by rw[<-hL']at hm;simp at hm;omega
 have F7:Fr w W7 (L++ [(w4.heap.size, [.slice none 0 0,.slice B2 p2 d2,.slice B3 p3 d3,.slice B4 p4 d4])]):=by rw[<-XM];exact Fr.qY (C:= [.slice B1 p1 d1,.slice B2 p2 d2,.slice B3 p3 d3,.slice B4 p4 d4]) (by rw[<-hL'];exact F6) ZB (j:=0) rfl _
 obtain⟨W8,hW8⟩:=aC W7.drew;have F8:=F7.drew;rw[hW8]at F8;have R0:=Hd (show VbR (List Int) 26 [] w W8 L w4.heap.size 0 (fun v=> [v,.slice B2 p2 d2,.slice B3 p3 d3,.slice B4 p4 d4]) (.slice none 0 0) [] W8 from VbR.nil F8 ZB (b_.nil _) (fun _=>rfl) (fun _ _=>rfl));have o7:=aW (HLL.out _ _ F7);have o8:=aW (HLL.out _ _ F8);clear F6 F7 F8 hL' ZB;refine ak [] (List.range 10) (by kernel_rfl) (by kernel_rfl) ?_;refine eH ?_;refine aK ?_;refine lit ?_;try rw[hW8]
 gi_wp2;clear o1 o2 o3 o4 o6 o7 o8 y1 X0 XM hW8 hW1 hwa hwb hr1 hr2 hw1 hw2 z1;gi_loopw[59] (fun j wr=>JnR w W8 L w4.heap.size (fun v=> [v,.slice B2 p2 d2,.slice B3 p3 d3,.slice B4 p4 d4]) (aat (aak q p1) c.marks (c.marks.map fun l=>aao l i1 i2)) p1 j wr) (fun j _=>p1-(intOf j).toNat);case atStart=>unfold JnR;exact⟨0,_,Nat.zero_le _,rfl,R0⟩
 case round=>
  unfold JnR at hrel;obtain⟨k,v,hk,rfl,hR⟩:=hrel;by_cases hlt:k<p1
  ·obtain⟨x1,hx1⟩:=dW c.marks k (by have:=HQ.out.2;omega);have hst:=aaP (p:=aak q p1) (b:=c.marks.map fun l=>aao l i1 i2) hx1 (by rw[List.getElem?_map,hx1];rfl);obtain⟨b1,o1,A1,n1,c1,hA1,g1,gs1⟩:=HM.out.tX hx1;subst hA1;have hb1:b1<w.heap.size:=World.block_lt_of_cell? w _ g1;obtain rfl:P=n1:=by have h1:=HJ.out.2.2.2.2 x1 (List.mem_of_getElem? hx1);have h2:=gs1.len;omega
   have hfo:=HLL.out _ _ hR.out.fr;have y1:=(hfo.bl.cell (p:=⟨b1,_,none⟩) hb1).trans g1;have o5:=aW hfo;have hsl:Sl Int wr (bP v++ [w4.heap.size]) A1 P c1 x1:=by
    have:=(gs1.moreL (bP v++ [w4.heap.size]) hR.out.ge).go hR.out.fr.bl
    rwa [List.append_nil]at this
   obtain⟨vr,wC,aal,aai,hbC⟩:=uz (t:=26) underlying26 aaS hsl (by omega);obtain⟨g,cap,rfl⟩:=qA aai (by omega);have hgb:=(aai.lt (k:=g) rfl).1;obtain⟨wd,hwd⟩:=aC wC.drew;obtain⟨we,hwe⟩:=aC wd.drew;have hbd:Below wr.heap.size wr wd:=by rw[<-hwd];exact hbC.drew
   have hbe:Below wr.heap.size wr we:=by rw[<-hwe];exact hbd.drew
   have aaj:bD Int 3 wd (bP v++ [w4.heap.size]) wr.heap.size (.slice (some ⟨g,0,none⟩) P cap) P x1:=by rw[<-hwd];exact aai.go (Below.refl _ _).drew
   have oE:bD Int 3 we (bP v++ [w4.heap.size]) wr.heap.size (.slice (some ⟨g,0,none⟩) P cap) P x1:=by rw[<-hwe];exact aaj.go (Below.refl _ _).drew
   have a0:=stays ((HLL.out _ _ (hR.out.go hbd).fr).aQ 1 0);have HC:=Hd aal;have HO:=Zw aaj oE hbd hbe hst hx1;clear hfo hsl aal aai hbC hbd hbe hst hx1 gs1 aaj oE
   gi_wp2_with (first
    |(gi_at_builtin;refine wpListIn_plain rfl fun K hK'=>?_;refine aI _ _ _ rfl rfl rfl HC.out (hK' _ _ ?_);clear hK' K)
    |fail)
   have HLN:=Hd (show(aat (aak q p1) c.marks (c.marks.map fun l=>aao l i1 i2) k).length=k from(aan (by simp) (by have:=HQ.out.2;omega)).1);clear o5 y1;have hcase:k=q\/(¬k=q/\q=p1)\/(¬k=q/\¬q=p1):=by omega
   rcases hcase with rfl|⟨hne,rfl⟩|⟨hne,hnl⟩
   all_goals
    try have hB1:((k:Int)==(q:Int))=false:=beq_eq_false_iff_ne.2 (by omega)
    try have hB2:((q:Int)==(p1:Int))=false:=beq_eq_false_iff_ne.2 (by omega)
    refine ak [] (List.range 22) (by kernel_rfl) (by kernel_rfl) ?_;rw[hwd];refine eH ?_;refine aK ?_;refine lit ?_
   iterate 2
    focus
     have e1:=aaH HO.out.2.1 hi1;have e2:=aaH HO.out.2.1 hi2;obtain⟨V1,hV1⟩:=aC (we.setCell ⟨g,i1,none⟩ (.int .i64 (x1.getD i2 0)));have aae:=aav HO.out.2.1 hi1 e2.2.2;rw[hV1]at aae;have e3:=aaH aae hi2;obtain⟨V2,hV2⟩:=aC (V1.setCell ⟨g,i2,none⟩ (.int .i64 (x1.getD i1 0)));have O2:=aav aae hi2 e1.2.2;rw[hV2]at O2;have hk1:Keeps [g] we V1:=by rw[<-hV1];exact(Keeps.refl _ _).setCell (p:=⟨g,i1,none⟩) (.inl (by simp)) _
     have HT:=fB (show Below wr.heap.size wr V2 by rw[<-hV2,<-hV1];exact(HO.out.2.2.2.1.setCell (p:=⟨g,i1,none⟩) hgb _).setCell (p:=⟨g,i2,none⟩) hgb _) (show bD Int 3 V2 (bP v++ [w4.heap.size]) wr.heap.size (.slice (some ⟨g,0,none⟩) P cap) P (aao x1 i1 i2)from O2) (HO.out.2.2.2.2.1.trans (by rw[if_neg (by simp[aak])]));obtain⟨c1,f1,-⟩:=e1;have c2:=e2.1;obtain⟨c3,f3,-⟩:=e3;generalize x1.getD i1 0=m1 at*;generalize x1.getD i2 0=m2 at*;clear e2 aae O2;gi_wp2;refine aP [g] 14 (by kernel_rfl) (by kernel_rfl) ?_;rw[hwe];refine ay 0 ?_;refine ay 1 ?_;refine ay 2 ?_;refine ay 3 ?_;refine ay 4 ?_;refine ay 5 ?_;refine ay 6 ?_;refine ay 8 ?_;refine ay 9 ?_;refine ay 10 ?_
     iterate 2 (all_goals(refine aa2 [7,11] (A_c ?_ (A_c ?_ A_n))<;>(first
      |exact Arm.no
      |(refine Arm.mk 7 fun K hK=>?_;gi_wp2;refine⟨Keeps.refl _ _,?_⟩;refine lit ?_)
      |(refine Arm.mk 11 fun K hK=>?_;gi_wp2;refine⟨Keeps.refl _ _,?_⟩;refine lit ?_))))
     all_goals
      refine ay 12 ?_;refine eU 13 fun K hK=>?_;gi_wp2;refine⟨hk1,?_⟩;refine lit ?_;refine iq 2 ?_;refine jW fun K hK K' hK'=>?_;gi_wp2;refine jW fun K hK K' hK'=>?_;gi_wp2;refine tail_nil _ ?_;simp only[cu]
    rotate_left 2
   have HT:=fB HO.out.2.2.1 HO.out.1 (HO.out.2.2.2.2.1.trans (by rw[if_pos (by simp[aak,hne,hnl])]))
   all_goals
    have R1:=hR.out.go HT.out.1;obtain⟨A',c',e,hs⟩:=HT.out.2.1.sl (by omega) hR.out.bel;cases e;obtain⟨v',w',r1,k1,k2,R2,kA⟩:=R1.app (t:=29) underlying29 aaK ⟨_,_,_,rfl,hs⟩ (by rw[HLN.out];omega);obtain⟨wq,hwq⟩:=aC (w'.setCell ⟨w4.heap.size,0,none⟩ v');rw[hwq]at R2;obtain⟨g',cap',hv',-⟩:=R2.put (k:=k) (by rw[List.length_append,HLN.out];simp);rw[List.length_append,HLN.out,List.length_singleton]at hv';subst hv';have oV:=aW (HLL.out _ _ R1.fr);have HA:=Hd2 r1 kA;have HR2:=Hd R2;clear R1 R2 r1 kA hs
    gi_wp2_with (first
     |(gi_at_builtin;refine wpListIn_plain rfl fun K hK'=>?_;refine aI _ _ _ rfl rfl rfl HA.out.1 (hK' _ _ ?_);clear hK' K)
     |fail)
    exact⟨by unfold JnR;exact⟨k+1,_,by omega,by go_num,Hd (by rw[HT.out.2.2];exact HR2.out)⟩,by simp[intOf];omega⟩
  ·have hkm:k=p1:=by omega
   clear hk hlt;subst hkm;obtain⟨A7,cM,hvM,aa1⟩:=hR.out.sl (by rw[(aan (p:=aak q k) (a:=c.marks) (b:=c.marks.map fun l=>aao l i1 i2) (by simp) (show k<=c.marks.length by have:=HQ.out.2;omega)).1];omega);rw[(aan (p:=aak q k) (a:=c.marks) (b:=c.marks.map fun l=>aao l i1 i2) (by simp) (show k<=c.marks.length by have:=HQ.out.2;omega)).1]at hvM aa1;subst hvM;have F:=Hd (HLL.out _ _ hR.out.fr);have HCD:=Hd (show jE wr [] (aam (aak q k) i1 i2 c) ⟨A7,k,cM⟩ ⟨B2,p2,d2⟩ ⟨B3,p3,d3⟩ ⟨B4,p4,d4⟩from⟨by show Sl _ _ _ _ _ _ (aat _ _ _ c.marks.length);rw[HQ.out.2];exact aa1.less (by simp),H.out.2.1.bonus.go F.out.bl,H.out.2.1.malus.go F.out.bl,H.out.2.1.prev.go F.out.bl⟩);obtain⟨E1,hE1⟩:=aC (aaX c);obtain⟨E2,hE2⟩:=aC (zL x c);have hS2:zL x (aam (aak q k) i1 i2 c)=zL x c:=by unfold zL;rw[HJ.out.2.2.1]
   have HD:=Zw (show aaX (aam (aak q k) i1 i2 c)=E1 by rw[<-hE1];unfold aaX;rw[HJ.out.2.2.1]) (show aaY r (aam (aak q k) i1 i2 c)=aaY r c by unfold aaY;rw[HJ.out.2.2.1,aaI HJ.out.2.2.2.2 hi1 hi2]) (hS2.trans hE2) (show aap r x (aam (aak q k) i1 i2 c)=aap r x c by unfold aap;rw[hS2,HJ.out.2.2.2.1]) hE1 hE2;have oV:=aW F.out;have hbw:Below wr.heap.size wr wr:=Below.refl _ _;clear hR aa1 hE1 hE2 hS2;gi_wp2;have X:=aaJ (i:=i) (H.out.1.go F.out.bl) (H.out.2.1.go F.out.bl) H.out.2.2.2.2 H.out.2.2.2.1 (tab_below H.out.2.2.1 F.out.bl) (b_.nil _);rw[HD.out.2.2.2.2.1]at X;refine Cl 10 X ?_;clear X;rintro e wb ⟨As,ns,cs,rfl,z,hbb⟩;have TC:=Hd z;replace hbw:=hbw.trans (hbb.mono hbw.size);replace F:=Hd (F.out.go hbb);have o8':=aW F.out;clear z hbb;gi_wp2;have X:=aaJ (i:=i) (H.out.1.go F.out.bl) (HCD.out.go hbw) HJ.out.1 HJ.out.2.1 (tab_below H.out.2.2.1 F.out.bl) (b_.nil _);rw[HD.out.1,HD.out.2.1]at X;refine Cl 10 X ?_;clear X;rintro e wc ⟨aad,nd,cd,rfl,z,hbc⟩;have aah:=Hd z;replace TC:=Hd (TC.out.go hbc);replace hbw:=hbw.trans (hbc.mono hbw.size);replace F:=Hd (F.out.go hbc);have o9:=aW F.out;clear z hbc;gi_wp2;have X:=aaE (H.out.1.go F.out.bl) (H.out.2.1.go F.out.bl) H.out.2.2.2.2 H.out.2.2.2.1 HX.out (tab_below H.out.2.2.1 F.out.bl) (b_.nil _);rw[HD.out.2.2.2.2.2]at X;refine Cl 11 X ?_;clear X;rintro e wd' ⟨u,rfl,z,hbd⟩;obtain⟨Ax,nx,cx,Bx,mx,dx,rfl,z1,z2⟩:=z;obtain⟨V4,hV4,F4⟩:=dR ((F.out.go hbd).a wd'.heap.size [.bool (aap r x c).1.1,.slice Ax nx cx,.bool (aap r x c).2.1,.slice Bx mx dx] 42);have hb4:Below wd'.heap.size wd' V4:=by rw[<-hV4];exact bel
   have aaf:=Hd (show RV V4 [] (.agg #[.bool (aap r x c).1.1,.slice Ax nx cx,.bool (aap r x c).2.1,.slice Bx mx dx]) (aap r x c)from⟨_,_,_,_,_,_,rfl,z1.go hb4,z2.go hb4⟩);replace TC:=Hd ((TC.out.go hbd).go hb4);replace aah:=Hd ((aah.out.go hbd).go hb4);replace hbw:=(hbw.trans (hbd.mono hbw.size)).trans (hb4.mono (Nat.le_trans hbw.size hbd.size));replace F:=Hd F4;have o9:=aW F.out;clear F4 z1 z2 hbd hb4;gi_wp2;have X:=aaE (H.out.1.go F.out.bl) (HCD.out.go hbw) HJ.out.1 HJ.out.2.1 HX.out (tab_below H.out.2.2.1 F.out.bl) (b_.nil _);rw[HD.out.2.2.1,HD.out.2.2.2.1]at X;refine Cl 11 X ?_;clear X;rintro e we' ⟨u,rfl,z,hbe⟩;obtain⟨Ay,ny,cy,By,my,dy,rfl,z1,z2⟩:=z;obtain⟨V5,oM,F5⟩:=dR ((F.out.go hbe).a we'.heap.size [.bool (aap r x c).1.1,.slice Ay ny cy,.bool (aap r x c).2.1,.slice By my dy] 42);have hb5:Below we'.heap.size we' V5:=by rw[<-oM];exact bel
   have aag:=Hd (show RV V5 [] (.agg #[.bool (aap r x c).1.1,.slice Ay ny cy,.bool (aap r x c).2.1,.slice By my dy]) (aap r x c)from⟨_,_,_,_,_,_,rfl,z1.go hb5,z2.go hb5⟩);replace aaf:=Hd ((aaf.out.go hbe).go hb5);replace TC:=Hd ((TC.out.go hbe).go hb5);replace aah:=Hd ((aah.out.go hbe).go hb5);replace hbw:=(hbw.trans (hbe.mono hbw.size)).trans (hb5.mono (Nat.le_trans hbw.size hbe.size));replace F:=Hd F5;have o9:=aW F.out;clear F5 z1 z2 hbe hb5;gi_wp2;have X:=kD (i:=(i:Int)) (H.out.1.go F.out.bl) (HCD.out.go hbw) HJ.out.1 (tab_below H.out.2.2.1 F.out.bl) (b_.nil _);refine Cl 15 X ?_;clear X;rintro e wf ⟨rfl,hbf⟩;replace F:=Hd (F.out.go hbf);replace aaf:=Hd (aaf.out.go hbf);replace aag:=Hd (aag.out.go hbf);replace TC:=Hd (TC.out.go hbf);replace aah:=Hd (aah.out.go hbf);have o9:=aW F.out;clear hbf;gi_wp2;have XS:=aaG TC.out aah.out rfl;refine Cl 16 XS ?_;clear XS;rintro e wg ⟨rfl,hbg⟩;replace F:=Hd (F.out.go hbg);replace aaf:=Hd (aaf.out.go hbg);replace aag:=Hd (aag.out.go hbg);have o9:=aW F.out;clear hbg;gi_wp2;have XS:=zK aaf.out aag.out;rw[decide_eq_true rfl]at XS;refine Cl 14 XS ?_;clear XS;rintro e wh ⟨rfl,hbh⟩;replace F:=Hd (F.out.go hbh);clear hbh;gi_wp2;go_ret;exact⟨rfl,F.out.bl⟩
end
end
section
open Go.RowKit Go.Shelf
theorem aau{r:aS}{s1 s2 s3 s4 s5 s6 s7:dK}{c:dS}{t1 t2 t3 t4:dK}{w:World}{i a b:Int}(hr:dG w [] r s1 s2 s3 s4 s5 s6 s7)(hc:jE w [] c t1 t2 t3 t4)(ha:0<=a/\a<=255)(hb:0<=b/\b<=255)(hy:0<=y/\y<=255)(ht:Tab w):
 CB 4 #[.agg (aV r s1 s2 s3 s4 s5 s6 s7).toArray,.int .i64 i,.agg (dI t1 t2 t3 t4).toArray,.int .u8 a,.int .u8 b,.int .u8 y] (.bool true) w:=by
 by_cases hf:yI r c
 ·by_cases hg:f_ r i c;·obtain⟨-,k,x,rfl,hx,-⟩:=id hg;exact aaT ha hb hy hr hc ht hf hg hx
  exact aaC hr hc ht fun _=>hg
 ·exact aaC hr hc ht fun h=>absurd h hf
end
section
open Go.ChangeShapes Go.WideShapes Go.ChangeAt Go.RowKit Go.Deep Go.Joins
section
set_option maxRecDepth 100000
theorem own:ownKnob prog.godebug=none:=by kernel_rfl
theorem laidOut:laidOutB prog=true:=by kernel_rfl
theorem jU:Opens Int prog 3:=QU underlying3
theorem wM:Opens ByteArray prog 9:=IL underlying9
theorem uS:Opens (List Int) prog 26:=iI underlying26 (by kernel_rfl) (by decide+kernel) jU
theorem Zp:Opens bT prog 53:=fG underlying53 (by kernel_rfl) (aX rfl (by kernel_rfl) wM (aX rfl (by kernel_rfl) jU (aX rfl (by kernel_rfl) jU (aX rfl (by kernel_rfl) jU (aX rfl (by kernel_rfl) jU (aX rfl (by kernel_rfl) jU (iL rfl (by kernel_rfl) (qP underlying4))))))))
theorem Zq:Opens bW prog 61:=fG underlying61 (by kernel_rfl) (aX rfl (by kernel_rfl) wM (aX rfl (by kernel_rfl) jU (iL rfl (by kernel_rfl) jU)))
theorem op_key:Opens bK prog 116:=fG underlying116 (by kernel_rfl) (aX rfl (by kernel_rfl) jU (aX rfl (by kernel_rfl) wM (iL rfl (by kernel_rfl) jU)))
theorem op_tie:Opens dA prog 108:=fG underlying108 (by kernel_rfl) (aX rfl (by kernel_rfl) wM (iL rfl (by kernel_rfl) (iI underlying106 (by kernel_rfl) (by decide+kernel) op_key)))
theorem Zr:Opens aU prog 48:=NH underlying48 (by kernel_rfl) (by decide+kernel) ⟨rfl,rfl,rfl,rfl,rfl⟩ ⟨by kernel_rfl,by kernel_rfl,by kernel_rfl,by kernel_rfl,by kernel_rfl⟩ underlying3 underlying9 underlying3 underlying3 underlying46
theorem Xy:Opens aJ prog 50:=fG underlying50 (by kernel_rfl) (aX rfl (by kernel_rfl) wM (aX rfl (by kernel_rfl) jU (aX rfl (by kernel_rfl) jU (aX rfl (by kernel_rfl) jU (aX rfl (by kernel_rfl) (qP underlying4) (aX rfl (by kernel_rfl) (qP underlying4) (aX rfl (by kernel_rfl) Zr (aX rfl (by kernel_rfl) wM (iL rfl (by kernel_rfl) jU)))))))))
theorem Xz:Opens lG prog 40:=fG underlying40 (by kernel_rfl) (aX rfl (by kernel_rfl) (qP underlying4) (iL rfl (by kernel_rfl) uS))
theorem op_rat:Opens fC prog 42:=fG underlying42 (by kernel_rfl) (aX rfl (by kernel_rfl) Xz (iL rfl (by kernel_rfl) Xz))
abbrev RulT:=ByteArray×List bT×List bW×List bW×List dA×List aJ×List Int×List Int×Int
abbrev CrdT:=List (List Int)×List Int×List Int×List fC
theorem Nq:Opens (List bW) prog 23:=iI underlying23 (by kernel_rfl) (by decide+kernel) Zq
theorem XA:Opens RulT prog 28:=fG underlying28 (by kernel_rfl) (aX rfl (by kernel_rfl) wM (aX rfl (by kernel_rfl) (iI underlying22 (by kernel_rfl) (by decide+kernel) Zp) (aX rfl (by kernel_rfl) Nq (aX rfl (by kernel_rfl) Nq (aX rfl (by kernel_rfl) (iI underlying24 (by kernel_rfl) (by decide+kernel) op_tie) (aX rfl (by kernel_rfl) (iI underlying25 (by kernel_rfl) (by decide+kernel) Xy) (aX rfl (by kernel_rfl) uS (aX rfl (by kernel_rfl) uS (iL rfl (by kernel_rfl) jU)))))))))
theorem Zt:Opens CrdT prog 32:=fG underlying32 (by kernel_rfl) (aX rfl (by kernel_rfl) (iI underlying29 (by kernel_rfl) (by decide+kernel) uS) (aX rfl (by kernel_rfl) uS (aX rfl (by kernel_rfl) uS (iL rfl (by kernel_rfl) (iI underlying30 (by kernel_rfl) (by decide+kernel) op_rat)))))
section
variable {H:Type}{enc:TypeId×Value→H}{W:World}{v:Value}{d:DataW H}{p:List MemPlace}{b:Nat}
theorem Uc(hv:Value.okWide prog W .any b 28 v)(h:DataW.Trod enc prog W 0 (fun _=>true) true 28 v d p)(hw:∀n,n∈d.weights prog 28->n<=reachBytes):
 ∃r s1 s2 s3 s4 s5 s6 s7,v=.agg (aV r s1 s2 s3 s4 s5 s6 s7).toArray/\dG W [] r s1 s2 s3 s4 s5 s6 s7:=by
 obtain⟨cs,rfl,hsz⟩:=okWide_struct underlying28 hv;obtain⟨fuel,hg⟩:=h;rw[show(Value.cells (.agg cs)).toList=cs.toList from rfl]at hg;obtain⟨x,hx⟩:=XA H enc W true fuel _ d p hg hw;obtain⟨_,_,e,h0,_,_,rfl,⟨A1,n1,c1,rfl,g1⟩,_,_,rfl,⟨A2,n2,c2,rfl,g2⟩,_,_,rfl,⟨A3,n3,c3,rfl,g3⟩,_,_,rfl,⟨A4,n4,c4,rfl,g4⟩,_,_,rfl,⟨A5,n5,c5,rfl,g5⟩,_,_,rfl,⟨A6,n6,c6,rfl,g6⟩,_,_,rfl,⟨A7,n7,c7,rfl,g7⟩,⟨rfl,h8⟩⟩:=hx;have e0:_=_:=h0;subst e0;exact⟨⟨x.1,x.2.1,x.2.2.1,x.2.2.2.1,x.2.2.2.2.1,x.2.2.2.2.2.1,x.2.2.2.2.2.2.1,x.2.2.2.2.2.2.2.1,x.2.2.2.2.2.2.2.2⟩,⟨A1,n1,c1⟩,⟨A2,n2,c2⟩,⟨A3,n3,c3⟩,⟨A4,n4,c4⟩,⟨A5,n5,c5⟩,⟨A6,n6,c6⟩,⟨A7,n7,c7⟩,congrArg Value.agg (Array.toList_inj.1 e),g1,g2,g3,g4,g5,g6,g7,h8⟩
theorem XB(hv:Value.okWide prog W .any b 32 v)(h:DataW.Trod enc prog W 0 (fun _=>true) true 32 v d p)(hw:∀n,n∈d.weights prog 32->n<=reachBytes):
 ∃c t1 t2 t3 t4,v=.agg (dI t1 t2 t3 t4).toArray/\jE W [] c t1 t2 t3 t4:=by
 obtain⟨cs,rfl,hsz⟩:=okWide_struct underlying32 hv;obtain⟨fuel,hg⟩:=h;rw[show(Value.cells (.agg cs)).toList=cs.toList from rfl]at hg;obtain⟨x,hx⟩:=Zt H enc W true fuel _ d p hg hw;obtain⟨_,_,e,⟨A1,n1,c1,rfl,g1⟩,_,_,rfl,⟨A2,n2,c2,rfl,g2⟩,_,_,rfl,⟨A3,n3,c3,rfl,g3⟩,⟨A4,n4,c4,rfl,g4⟩⟩:=hx;exact⟨⟨x.1,x.2.1,x.2.2.1,x.2.2.2⟩,⟨A1,n1,c1⟩,⟨A2,n2,c2⟩,⟨A3,n3,c3⟩,⟨A4,n4,c4⟩,congrArg Value.agg (Array.toList_inj.1 e),g1,g2,g3,g4⟩
theorem Zu(hv:Value.okWide prog W .any b 3 v)(h:DataW.Trod enc prog W 0 (fun _=>true) true 3 v d p):∃x,v=.int .i64 x/\i64 x:=by obtain⟨x,rfl,-,-,wx⟩:=open_int underlying3 hv h;exact⟨x,rfl,wf_i64 wx⟩
end
end
section
set_option maxRecDepth 100000
section
variable {H:Type}{enc:TypeId×Value→H}{W:World}{v:Value}{d:DataW H}{p:List MemPlace}{b:Nat}
theorem aaN(hv:Value.okWide prog W .any b 5 v)(h:DataW.Trod enc prog W 0 (fun _=>true) true 5 v d p):∃x,v=.int .u8 x/\0<=x/\x<=255:=by obtain⟨x,rfl,-,-,wx⟩:=open_int underlying5 hv h;have:=bounds_u8 wx;exact⟨x,rfl,by omega,by omega⟩
end
end
end
section
section
set_option maxRecDepth 100000
theorem aaD:((Rows.scoreJudgesRow.inPlace==prog.inPlace 4))=true:=by kernel_rfl
theorem aaw:((Rows.scoreJudgesRow.named==prog.varsNamed 4))=true:=by kernel_rfl
end
section
set_option maxRecDepth 100000
theorem aax:((Rows.scoreJudgesRow.unfollowed==prog.unfollowed 4))=true:=by kernel_rfl
theorem aay:((Rows.scoreJudgesRow.recurses==prog.recurses 4))=true:=by kernel_rfl
end
section
set_option maxRecDepth 100000
theorem gB{a b:Bool}(h:a=true)(k:b=true):(a&&b)=true:=by rw[h,k];rfl
theorem kr{p:Prop}(h:p:=by kernel_rfl):p:=h
theorem aaq:joinedFacts prog 4 f4 Rows.scoreJudgesSpec Rows.scoreJudgesRow=true:=by unfold joinedFacts;exact gB (gB (gB (gB (gB (gB (gB (gB (gB (gB (gB (gB (gB (gB (gB (gB (gB (gB (gB (gB (gB (gB (gB (gB (gB (gB (gB (gB (gB (gB (gB kr kr) kr) kr) kr) kr) kr) kr) kr) aaD) aax) aay) aaw) kr) kr) kr) kr) kr) kr) kr) kr) kr) kr) kr) kr) kr) kr) kr) kr) kr) kr) kr
end
open Go.ChangeShapes Go.WideShapes Go.ChangeAt Go.RowKit
section
set_option maxRecDepth 100000
theorem door_met(os:Os)(args:Array Value):laidMetH prog Rows.scoreJudgesRow.laid ((World.doorLaid prog 400 os).forCall (fun _ _=>0) ⟨#[],args, []⟩).memory:=laidMetH_of_parts3 (fuel:=8) (laidMet_of_run' 8 (by kernel_rfl) (by kernel_rfl)) (by kernel_rfl) (by kernel_rfl)
theorem tab_of{W:World}(h:laidMetH prog Rows.scoreJudgesRow.laid W):Tab W:=by rw[MakeChecks.laidMetH_plain _ _ _ (by kernel_rfl)]at h;exact Lib.tabIs_of_head (t:=286) (e:=5) (g:=0) (n:=256) (rest:= []) (by kernel_rfl) (by kernel_rfl) underlying286 underlying5 (by kernel_rfl) (by kernel_rfl) (laidMet.tail h)
theorem aar(os:Os)(started:os.Started)(H:Type)(enc:TypeId×Value->H):
 ReturnsInHanded {} checked os 4 .any (fun w args=>(Rows.scoreJudgesSpec.pre enc prog f4 [] false w args/\laidMetH prog Rows.scoreJudgesRow.laid w)/\sizedMet enc prog f4 (OpenSpec.ofChange Rows.scoreJudgesSpec) false w args) (Rows.scoreJudgesSpec.post enc prog f4 false true false false):=by
 refine returnsInHanded_of_change_and (C:=checked) (X:=fun w _=>laidMetH prog Rows.scoreJudgesRow.laid w) (fun _ _ _ hh h=>h.of_heap hh) own started (by kernel_rfl) func4 (ChangeSpec.witness_shaped (enc:=enc) (C:=checked) (os:=os) (X:=fun w _=>laidMetH prog Rows.scoreJudgesRow.laid w) false (World.doorLaid prog 400 os) #[.agg #[.string ⟨#[]⟩,.slice none 0 0,.slice none 0 0,.slice none 0 0,.slice none 0 0,.slice none 0 0,.slice none 0 0,.slice none 0 0,.int .i64 0],.int .i64 0,.agg #[.slice none 0 0,.slice none 0 0,.slice none 0 0,.slice none 0 0],.int .u8 0,.int .u8 0,.int .u8 0] 8 rfl (World.shaped_of_RefB (by kernel_rfl) (by kernel_rfl)) (by kernel_rfl) (by kernel_rfl) (by kernel_rfl) (door_met os _)) ?_;intro W base args ds gs before hval0 hW _ hsz0 hL _;have hsz:(DataW.weightsEach prog (f4.params.toList++Rows.scoreJudgesSpec.plain.varTypes prog) (ds++gs)).all (· <=reachBytes)=true:=hsz0;have hval:∀(j:Nat) t v,f4.params[j]?=some t->args[j]?=some v->Value.okWide prog W .any base t v:=hval0;have hW':=hW;have hlt:=hW.lt;obtain⟨p,q,hA0,hV,rfl,hfz,hnd⟩:=hW;have hA:DataW.TrodAll enc prog W 0 (fun _=>true) true f4.params.toList args.toList ds p:=hA0;rw[params4]at hA hval hsz;obtain⟨v0,vs0,d0,ds0,p0,q0,hargs,rfl,rfl,h0,r0⟩:=trodAll_cons hA;obtain⟨v1,vs1,d1,ds1,p1,q1,rfl,rfl,rfl,h1,r1⟩:=trodAll_cons r0;obtain⟨v2,vs2,d2,ds2,p2,q2,rfl,rfl,rfl,h2,r2⟩:=trodAll_cons r1;obtain⟨v3,vs3,d3,ds3,p3,q3,rfl,rfl,rfl,h3,r3⟩:=trodAll_cons r2;obtain⟨v4,vs4,d4,ds4,p4,q4,rfl,rfl,rfl,h4,r4⟩:=trodAll_cons r3;obtain⟨v5,vs5,d5,ds5,p5,q5,rfl,rfl,rfl,h5,r5⟩:=trodAll_cons r4;obtain⟨rfl,rfl,rfl⟩:=trodAll_nil r5;obtain rfl:args=#[v0,v1,v2,v3,v4,v5]:=by apply Array.toList_inj.1;rw[hargs]
 obtain⟨rfl,rfl⟩:=trodVars_none hV;clear hA0 hval0 hsz0;have hwt:∀(j:Nat) (t:TypeId) (d:DataW H), [28,3,32,5,5,5][j]?=some t-> [d0,d1,d2,d3,d4,d5][j]?=some d->∀n,n∈d.weights prog t->n<=reachBytes:=by
  intro j t d ht hd n hn;have:=List.all_eq_true.1 hsz n (DataW.weights_mem_each (j:=j) (by
   rw[List.getElem?_append_left (List.getElem?_eq_some_iff.1 ht).1];exact ht) (by
   rw[List.append_nil];exact hd) n hn)
  simpa using this
 obtain⟨r0,s01,s02,s03,s04,s05,s06,s07,rfl,hx0⟩:=Uc (hval 0 _ _ rfl rfl) h0 (hwt 0 _ _ rfl rfl);obtain⟨x1,rfl,hx1⟩:=Zu (hval 1 _ _ rfl rfl) h1;obtain⟨c2,t21,t22,t23,t24,rfl,hx2⟩:=XB (hval 2 _ _ rfl rfl) h2 (hwt 2 _ _ rfl rfl);obtain⟨x3,rfl,hx3⟩:=aaN (hval 3 _ _ rfl rfl) h3;obtain⟨x4,rfl,hx4⟩:=aaN (hval 4 _ _ rfl rfl) h4;obtain⟨x5,rfl,hx5⟩:=aaN (hval 5 _ _ rfl rfl) h5;simp only[List.append_nil]at hW' hlt;refine(aau hx0 hx2 hx3 hx4 hx5 (tab_of hL)).mono fun e W' ⟨he,hb⟩=>?_;subst he;refine⟨_,rfl,_,_,_, [],p0++(p1++(p2++(p3++(p4++(p5++ []))))), [],hW',trodAll_mk1 (shut_bool underlying4 true),?_,rfl,hb.frame _,fun h=>by cases h⟩;exact trodAll_cons_mk (hb.trod laidOut (by kernel_rfl) (by decide+kernel) h0 (fun x hx=>hlt x (by simp[hx]))) (trodAll_cons_mk (hb.trod laidOut (by kernel_rfl) (by decide+kernel) h1 (fun x hx=>hlt x (by simp[hx]))) (trodAll_cons_mk (hb.trod laidOut (by kernel_rfl) (by decide+kernel) h2 (fun x hx=>hlt x (by simp[hx]))) (trodAll_cons_mk (hb.trod laidOut (by kernel_rfl) (by decide+kernel) h3 (fun x hx=>hlt x (by simp[hx]))) (trodAll_cons_mk (hb.trod laidOut (by kernel_rfl) (by decide+kernel) h4 (fun x hx=>hlt x (by simp[hx]))) (trodAll_cons_mk (hb.trod laidOut (by kernel_rfl) (by decide+kernel) h5 (fun x hx=>hlt x (by simp[hx]))) trodAll_mk0)))))
end
section
set_option maxRecDepth 100000
theorem aaz:Rows.ScoreJudgesSaid:=
 OpenClaim.holds_of_wide 4 f4 rfl rfl rfl rfl rfl rfl rfl ⟨rfl,rfl,rfl,rfl,rfl⟩ rfl rfl rfl rfl rfl (by kernel_rfl) func4 aaq
  (of_decide_eq_true (by kernel_rfl)) (by unfold Func.isWrapper;rw[if_neg (of_decide_eq_false (by kernel_rfl))];exact⟨rfl,rfl⟩)
  (fun os started H enc _=>aar os started H enc)
end
end
end Go.Proofs.YtlcgbfkdnmdigaaGreatDoor
