/- Lemmas and walks; no statement is proved here. -/
import Derived.Laws.EntriesVeiled
import Derived.Laws.Rows
import Derived.Test.YtefnknhjlejalaaGreatDoorM19
set_option linter.unusedVariables false
set_option linter.unusedSimpArgs false
set_option maxRecDepth 20000
set_option maxHeartbeats 6000000
namespace Go.Proofs.YtefnknhjlejalaaGreatDoor
open Go.Proofs.Tryz Go.RowKit Go.Shelf
theorem afj{p:Prop}(h:p:=by have HB:=Hd (dO (num:=num) (x:=(op,a,b,c,d,r)) (k:=0) (by omega) (HM.out▸gK (by show ¬(0<=a/\_);omega)));exact acW):p:=h
theorem afm{p:Prop}(h:p:=by have HB:=Hd (dO (num:=num) (x:=(op,a,b,c,d,r)) (k:=3) (by omega) (HM.out▸gK (by show ¬(0<=d/\_);omega)));exact acW):p:=h
theorem afn{p:Prop}(h:p:=by have HB:=Hd (dO (num:=num) (x:=(op,a,b,c,d,r)) (k:=2) (by omega) (HM.out▸gK (by show ¬(0<=c/\_);omega)));exact acW):p:=h
theorem afo{p:Prop}(h:p:=by have HB:=Hd (dO (num:=num) (x:=(op,a,b,c,d,r)) (k:=1) (by omega) (HM.out▸gK (by show ¬(0<=b/\_);omega)));exact acW):p:=h
theorem acW{p:Prop}(h:p:=by
 gi_wp2
 all_goals first
  |exact(undef_no (by assumption)).elim
  |(go_ret;exact⟨by first|(rw[HB.out];done)|(rw[HB.out];rfl),hF.out.bl⟩)):p:=h
theorem ac4{p:Prop}(h:p:=by
 first
  |(simp[aj,fH,nD,iW,yV,dR,Bool.and_assoc];done)
  |(simp[aj,fH,nD,iW,yV,dR,Bool.and_assoc];cases dF r<;>simp)):p:=h
theorem ada{p:Prop}(h:p:=by have HRI:=Hd (show aj k m (op,xa,xb,xc,xd,r)=false by simp[aj,show ¬op=1 by omega,show ¬op=2 by omega,show ¬op=3 by omega,show ¬op=4 by omega,show ¬op=5 by omega,show ¬op=6 by omega,show ¬op=7 by omega,show ¬op=8 by omega]);have HF:=Hd (show fC l m=190 by rw[HE.out,qN HX.out.2.2.2.2.1 HRI.out];rfl);gi_wp2;refine ak [] (List.range 20) (by kernel_rfl) (by kernel_rfl) ?_;simp only[show List.range 20= [0,1,2,3,4,5,6,7,8,9,10,11,12,13,14,15,16,17,18,19]from rfl];refine eH ?_;refine aK ?_;refine lit ?_;gi_wp2;go_ret;exact⟨by first|(rw[HF.out];done)|(rw[HF.out];rfl),(hb.trans (HX.out.2.2.2.2.2.mono hb.size)).drew⟩):p:=h
theorem adr{p:Prop}(h:p:=by
 have HB:=Hd (show ∀j,j<2+1->nD regs inp i m (op,a,b,c,d,r) j=true from fun j hj=>by
  by_cases e:j=2;·subst e;exact HM.out▸decide_eq_true ⟨by show 0<=c;omega,hhi⟩
  exact hok.out j (by omega))
 gi_wp2;exact⟨⟨2+1,by omega,by first|rfl|go_num,HB,hF⟩,by simp[intOf]⟩):p:=h
theorem ads{p:Prop}(h:p:=by
 have HB:=Hd (show ∀j,j<3+1->nD regs inp i m (op,a,b,c,d,r) j=true from fun j hj=>by
  by_cases e:j=3;·subst e;exact HM.out▸decide_eq_true ⟨by show 0<=d;omega,hhi⟩
  exact hok.out j (by omega))
 gi_wp2;exact⟨⟨3+1,by omega,by first|rfl|go_num,HB,hF⟩,by simp[intOf]⟩):p:=h
theorem adt{p:Prop}(h:p:=by
 have HB:=Hd (show ∀j,j<1+1->nD regs inp i m (op,a,b,c,d,r) j=true from fun j hj=>by
  by_cases e:j=1;·subst e;exact HM.out▸decide_eq_true ⟨by show 0<=b;omega,hhi⟩
  exact hok.out j (by omega))
 gi_wp2;exact⟨⟨1+1,by omega,by first|rfl|go_num,HB,hF⟩,by simp[intOf]⟩):p:=h
theorem adw{p:Prop}(h:p:=by
 have HV:=Hd (HG.out.trans hr);gi_wp2_with (refine Cl 23 (Em (M:=M) (l1:=r.1.2) (l2:=r.2.2) (X.out.2.2.2.le hF.out.bl.size) (X.out.2.1.go hF.out.bl) (X.out.2.2.1.go hF.out.bl)) ?_;rintro e w2 ⟨rfl,hb2⟩;rw[HK.out];have G2:=Hd (hF.out.go hb2);clear hb2)
 go_ret;exact⟨by first|(rw[HV.out];done)|(rw[HV.out];rfl),G2.out.bl⟩):p:=h
theorem adE{p:Prop}(h:p:=by
 obtain rfl:k=n:=by omega
 have HF:=Hd (show fC l m=0 by rw[HE.out,vN (fun j y hy=>by rw[Int.zero_add];exact ht.out j y (by rw[<-H.out.2.1];exact(List.getElem?_eq_some_iff.1 hy).1) hy)];rfl);gi_wp2;go_ret;exact⟨by first|(rw[HF.out];done)|(rw[HF.out];rfl),hb⟩):p:=h
theorem adI{p:Prop}(h:p:=by
 by_cases e:j=0;·subst e;exact HM.out▸decide_eq_true ⟨by show 0<=a;omega,hhi⟩
 exact hok.out j (by omega)):p:=h
theorem adN{p:Prop}(h:p:=by gi_wp2;go_ret;exact⟨by first|(rw[HE.out];done)|(rw[HE.out];rfl),Below.refl _ _⟩):p:=h
theorem aef{p:Prop}(h:p:=by gi_wp2;exact⟨⟨0+1,by omega,by first|rfl|go_num,HB,hF⟩,by simp[intOf]⟩):p:=h
variable {M:List Nat}{r:RatR}{regs i m:Int}{inp num:Bool}{x:InsR}{k:Nat}
section
attribute [local go_sem] Oper.semAt_some
theorem JL(p q:Bool)(l k:List Int):kW ((p,l),(q,k))=(!p&& !q&&decide (l.length+k.length=0)):=by rw[Dq];cases p<;>cases q<;>cases l<;>cases k<;>simp
theorem JQ{v:Value}{w:World}(hx:RV w M v r):CB 58 #[v] (.bool (kW r)) w:=by
 refine wid ?_;obtain⟨A,n,c,B,m,d,rfl,a1,a2⟩:=hx;obtain⟨⟨p,l⟩,⟨q,k⟩⟩:=r;simp only at a1 a2 |-;have s1:=a1.small;have s2:=a2.small;have hz:=JL p q l k;rw[a1.len,a2.len]at hz;clear a1 a2;cases p<;>cases q<;>by_cases hn:n+m=0
 all_goals(
 first
  |have HE:=Hd (hz.trans (show _=true by rw[decide_eq_true hn];rfl))
  |have HE:=Hd (hz.trans (show _=false by first|rfl|(rw[decide_eq_false hn];rfl)|simp))
 clear hz;refine ent func58 rfl ntmps58 ?_;gi_wp2
 all_goals first
  |exact(undef_no (by assumption)).elim
  |(go_ret;exact⟨by first|(rw[HE.out];done)|(rw[HE.out];rfl)|(rw[HE.out];simp;omega),by exact bel⟩))
def iW(regs:Int)(inp:Bool)(i m k:Int):Int:=if k<regs then i else if k=0/\inp=true then m else 1
def yV:InsR->Nat->Int
 |(_,a,b,c,d,_),k=>if k=0 then a else if k=1 then b else if k=2 then c else d
def nD(regs:Int)(inp:Bool)(i m:Int)(x:InsR)(k:Nat):Bool:=bf (yV x k) (iW regs inp i m k)
def fH(regs:Int)(inp num:Bool)(i m:Int)(x:InsR):Bool:=nD regs inp i m x 0&&nD regs inp i m x 1&&nD regs inp i m x 2&&nD regs inp i m x 3&&(if num then dF x.2.2.2.2.2 else kW x.2.2.2.2.2)
theorem dO(hk:k<4)(h:nD regs inp i m x k=false):fH regs inp num i m x=false:=by
 unfold fH;have:k=0\/k=1\/k=2\/k=3:=by omega
 rcases this with rfl|rfl|rfl|rfl<;>simp[h]
theorem Dz(h:∀k,k<4->nD regs inp i m x k=true):fH regs inp num i m x=(if num then dF x.2.2.2.2.2 else kW x.2.2.2.2.2):=by unfold fH;rw[h 0 (by omega),h 1 (by omega),h 2 (by omega),h 3 (by omega)];simp
theorem gK{n:Int}(h:¬(0<=n/\n<m)):bf n m=false:=decide_eq_false h
set_option maxRecDepth 100000 in
set_option maxHeartbeats 8000000 in
theorem DC{op a b c d:Int}{A B:Option Addr}{n1 c1 n2 c2:Nat}{p q:Bool}{w:World}(hM:b_ M w)(hp:r.1.1=p)(hq:r.2.1=q)(h1:Sl Int w M A n1 c1 r.1.2)(h2:Sl Int w M B n2 c2 r.2.2):
 CB 26 #[.agg #[.int .i64 regs,.bool inp,.bool num],.agg #[.int .i64 op,.int .i64 a,.int .i64 b,.int .i64 c,.int .i64 d,.bool p,.slice A n1 c1,.bool q,.slice B n2 c2],.int .i64 i,.int .i64 m] (.bool (fH regs inp num i m (op,a,b,c,d,r))) w:=by
 refine wid ?_;obtain⟨W1,hW1,F1⟩:=nam (((Fr.nil w).a w.heap.size [.int .i64 regs,.bool inp,.bool num] 64).a (w.heap.size+1) [.int .i64 op,.int .i64 a,.int .i64 b,.int .i64 c,.int .i64 d,.bool p,.slice A n1 c1,.bool q,.slice B n2 c2] 38);have FO:=F1;refine op1 FO ?_;intros;have X:=h_ (show RV w M (.agg #[.bool p,.slice A n1 c1,.bool q,.slice B n2 c2]) r from⟨A,n1,c1,B,n2,c2,by rw[hp,hq],h1,h2⟩) h1 h2 hM;have F:=Hd F1;have HR:=Hd (show((p,r.1.2),(q,r.2.2))=r by rw[<-hp,<-hq]);clear h1 h2 hM F1 FO hp hq;have ix0:∀w,(Instr.index 101 (.agg #[.int .i64 a,.int .i64 b,.int .i64 c,.int .i64 d]) (.int .i64 0)).run prog w=.ok (.int .i64 a) w:=fun _=>by kernel_rfl
 have ix1:∀w,(Instr.index 101 (.agg #[.int .i64 a,.int .i64 b,.int .i64 c,.int .i64 d]) (.int .i64 1)).run prog w=.ok (.int .i64 b) w:=fun _=>by kernel_rfl
 have ix2:∀w,(Instr.index 101 (.agg #[.int .i64 a,.int .i64 b,.int .i64 c,.int .i64 d]) (.int .i64 2)).run prog w=.ok (.int .i64 c) w:=fun _=>by kernel_rfl
 have ix3:∀w,(Instr.index 101 (.agg #[.int .i64 a,.int .i64 b,.int .i64 c,.int .i64 d]) (.int .i64 3)).run prog w=.ok (.int .i64 d) w:=fun _=>by kernel_rfl
 refine ent func26 rfl ntmps26 ?_;gi_wp2;gi_loopw[21] (fun k0 wr=>∃k:Nat,k<=4/\k0=.int .i64 (k:Int)/\Hid (∀j,j<k->nD regs inp i m (op,a,b,c,d,r) j=true)/\Hid (Fr w wr [(w.heap.size, [.int .i64 regs,.bool inp,.bool num]),(w.heap.size+1, [.int .i64 op,.int .i64 a,.int .i64 b,.int .i64 c,.int .i64 d,.bool p,.slice A n1 c1,.bool q,.slice B n2 c2])])) (fun k0 _=>4-(intOf k0).toNat);case atStart=>exact⟨0,by omega,rfl,Hd (fun j hj=>by omega),F.out⟩
 case round=>
  obtain⟨k,hk,rfl,hok,hF⟩:=hrel;have hF1:=hF.out;refine op1 hF1 ?_;intros;clear hF1;by_cases h4:k=4
  ·subst h4;have HG:=Hd (Dz (num:=num) (x:=(op,a,b,c,d,r)) hok.out);cases num
   ·gi_wp2_with (refine Cl 58 (JQ (X.out.1.go hF.out.bl)) ?_;rintro e w2 ⟨rfl,hb2⟩;have G2:=Hd (hF.out.go hb2);clear hb2)
    go_ret;exact⟨by first|(rw[HG.out];done)|(rw[HG.out];rfl),G2.out.bl⟩
   cases hr:dF r;·have HK:=Hd (show qM (dF ((p,r.1.2),(q,r.2.2)))=100 by rw[HR.out,hr];rfl);exact adw
   have HK:=Hd (show qM (dF ((p,r.1.2),(q,r.2.2)))=0 by rw[HR.out,hr];rfl);exact adw
  ·by_cases hk0:k=0
   ·subst hk0;by_cases hr:(0:Int)<regs
    ·have HM:=Hd (show nD regs inp i m (op,a,b,c,d,r) 0=bf a i by simp[nD,iW,yV,hr]);by_cases hlo:a<0;·exact afj
     by_cases hhi:a<i
     ·have HB:=Hd (show ∀j,j<0+1->nD regs inp i m (op,a,b,c,d,r) j=true from fun j hj=>by
        exact adI)
      exact aef
     have HB:=Hd (dO (num:=num) (x:=(op,a,b,c,d,r)) (k:=0) (by omega) (HM.out▸gK (by show ¬(0<=a/\a<i);omega)));exact acW
    cases inp
    ·have HM:=Hd (show nD regs false i m (op,a,b,c,d,r) 0=bf a 1 by simp[nD,iW,yV,hr]);by_cases hlo:a<0;·exact afj
     by_cases hhi:a<1
     ·have HB:=Hd (show ∀j,j<0+1->nD regs false i m (op,a,b,c,d,r) j=true from fun j hj=>by
        exact adI)
      exact aef
     have HB:=Hd (dO (num:=num) (x:=(op,a,b,c,d,r)) (k:=0) (by omega) (HM.out▸gK (by show ¬(0<=a/\a<1);omega)));exact acW
    have HM:=Hd (show nD regs true i m (op,a,b,c,d,r) 0=bf a m by simp[nD,iW,yV,hr]);by_cases hlo:a<0;·exact afj
    by_cases hhi:a<m
    ·have HB:=Hd (show ∀j,j<0+1->nD regs true i m (op,a,b,c,d,r) j=true from fun j hj=>by
       exact adI)
     exact aef
    have HB:=Hd (dO (num:=num) (x:=(op,a,b,c,d,r)) (k:=0) (by omega) (HM.out▸gK (by show ¬(0<=a/\a<m);omega)));exact acW
   by_cases hk1:k=1
   ·obtain rfl:k=1:=by omega
    by_cases hr:(1:Int)<regs
    ·have HM:=Hd (show nD regs inp i m (op,a,b,c,d,r) 1=bf b i by simp[nD,iW,yV,hr]);by_cases hlo:b<0;·exact afo
     by_cases hhi:b<i;·exact adt
     have HB:=Hd (dO (num:=num) (x:=(op,a,b,c,d,r)) (k:=1) (by omega) (HM.out▸gK (by show ¬(0<=b/\b<i);omega)));exact acW
    have HM:=Hd (show nD regs inp i m (op,a,b,c,d,r) 1=bf b 1 by simp[nD,iW,yV,hr]);by_cases hlo:b<0;·exact afo
    by_cases hhi:b<1;·exact adt
    have HB:=Hd (dO (num:=num) (x:=(op,a,b,c,d,r)) (k:=1) (by omega) (HM.out▸gK (by show ¬(0<=b/\b<1);omega)));exact acW
   by_cases hk2:k=2
   ·obtain rfl:k=2:=by omega
    by_cases hr:(2:Int)<regs
    ·have HM:=Hd (show nD regs inp i m (op,a,b,c,d,r) 2=bf c i by simp[nD,iW,yV,hr]);by_cases hlo:c<0;·exact afn
     by_cases hhi:c<i;·exact adr
     have HB:=Hd (dO (num:=num) (x:=(op,a,b,c,d,r)) (k:=2) (by omega) (HM.out▸gK (by show ¬(0<=c/\c<i);omega)));exact acW
    have HM:=Hd (show nD regs inp i m (op,a,b,c,d,r) 2=bf c 1 by simp[nD,iW,yV,hr]);by_cases hlo:c<0;·exact afn
    by_cases hhi:c<1;·exact adr
    have HB:=Hd (dO (num:=num) (x:=(op,a,b,c,d,r)) (k:=2) (by omega) (HM.out▸gK (by show ¬(0<=c/\c<1);omega)));exact acW
   obtain rfl:k=3:=by omega
   by_cases hr:(3:Int)<regs
   ·have HM:=Hd (show nD regs inp i m (op,a,b,c,d,r) 3=bf d i by simp[nD,iW,yV,hr]);by_cases hlo:d<0;·exact afm
    by_cases hhi:d<i;·exact ads
    have HB:=Hd (dO (num:=num) (x:=(op,a,b,c,d,r)) (k:=3) (by omega) (HM.out▸gK (by show ¬(0<=d/\d<i);omega)));exact acW
   have HM:=Hd (show nD regs inp i m (op,a,b,c,d,r) 3=bf d 1 by simp[nD,iW,yV,hr]);by_cases hlo:d<0;·exact afm
   by_cases hhi:d<1;·exact ads
   have HB:=Hd (dO (num:=num) (x:=(op,a,b,c,d,r)) (k:=3) (by omega) (HM.out▸gK (by show ¬(0<=d/\d<1);omega)));exact acW
theorem vN{m:Int}:∀{p:List InsR}{i:Int},(∀(k:Nat) (x:InsR),p[k]?=some x->aj (i+k) m x=true)->iy m i p=true
 | [],_,_=>rfl
 |x::p,i,h=>by
  have h0:=h 0 x rfl;rw[show i+((0:Nat):Int)=i by simp]at h0;rw[iy,h0,Bool.true_and]
  exact vN fun k y hk=>by
   have:=h (k+1) y (by simpa using hk)
   rwa [show i+((k+1:Nat):Int)=i+1+(k:Int) by omega]at this
theorem qN{p:List InsR}(h:p[k]?=some x)(hx:aj k m x=false):iy m 0 p=false:=by
 cases hp:iy m 0 p
 ·rfl
 have:=uG hp h
 rw[Int.zero_add,hx]at this;cases this
theorem vO(A:Option Addr)(n c:Nat)(l:List InsR)(m:Int)(w:World)(hM:b_ M w)(hx:Sl InsR w M A n c l):
 CB 12 #[.slice A n c,.int .i64 m] (.int .i64 (fC l m)) w:=by
 refine wid ?_;have hs:=hx.small;have H:=fB hx hx.len hM;have HD:=Hd (show fC l m=if n<1\/4096<n then 190 else if iy m 0 l then 0 else 190 by unfold fC;rw[hx.len]);clear hx hM;by_cases h1:n<1;·have HE:=Hd (show fC l m=190 by rw[HD.out,if_pos (.inl h1)]);refine ent func12 rfl ntmps12 ?_;exact adN
 by_cases h2:4096<n;·have HE:=Hd (show fC l m=190 by rw[HD.out,if_pos (.inr h2)]);refine ent func12 rfl ntmps12 ?_;exact adN
 have HE:=Hd (show fC l m=if iy m 0 l then 0 else 190 by rw[HD.out,if_neg (by omega)]);clear HD;refine ent func12 rfl ntmps12 ?_;gi_wp2;gi_loopw[5] (fun i wr=>∃k:Nat,k<=n/\i=.int .i64 k/\Hid (∀(j:Nat) (x:InsR),j<k->l[j]?=some x->aj j m x=true)/\Below w.heap.size w wr) (fun i _=>n-(intOf i).toNat);case atStart=>exact⟨0,Nat.zero_le _,rfl,Hd (fun j x hj=>by omega),Below.refl _ _⟩
 case round=>
  obtain⟨k,hk,rfl,ht,hb⟩:=hrel;by_cases hlt:k<n
  ·obtain⟨x,hx⟩:=dW l k (by rw[H.out.2.1];exact hlt);obtain⟨op,xa,xb,xc,xd,r⟩:=x;obtain⟨b,o,A1,n1,c1,A2,n2,c2,rfl,⟨g0,g1,g2,g3,g4⟩,⟨h5,h6,h7,h8⟩,-,s1,s2⟩:=(H.out.1.go hb).insat hx;obtain⟨p,hp⟩:=aC r.1.1;obtain⟨q,hq⟩:=aC r.2.1;have HX:=Hd5 s1 s2 hp hq hx;rw[hp]at h5;rw[hq]at h7;clear s1 s2 hx hp hq;cases hr:aj k m (op,xa,xb,xc,xd,r);all_goals(
   have HR:=Hd hr;clear hr;gi_wp2_with (refine Cl 27 (EW (r:=r) (H.out.2.2.le hb.size) HX.out.2.2.1 HX.out.2.2.2.1 HX.out.1 HX.out.2.1) ?_;rintro e w2 ⟨rfl,hb2⟩;rw[HR.out];have G2:=Hd (hb.trans (hb2.mono hb.size));clear hb2))
   ·have HF:=Hd (show fC l m=190 by rw[HE.out,qN HX.out.2.2.2.2 HR.out];rfl);go_ret;exact⟨by first|(rw[HF.out];done)|(rw[HF.out];rfl),G2.out⟩
   exact⟨⟨k+1,by omega,by go_num,Hd (fun j y hj hy=>by
    by_cases e:j=k;·subst e;rw[HX.out.2.2.2.2]at hy;cases hy;exact HR.out
    exact ht.out j y (by omega) hy),G2.out⟩,by simp[intOf];omega⟩
  ·exact adE
section
def gG(w:World)(b:Nat)(cs:List Value)(ty:TypeId):Prop:=w.heap[b]?=some (.cells cs.toArray ty (0,0))
section
variable {w w':World}{b:Nat}{cs:List Value}{ty:TypeId}
theorem gG.lt(h:gG w b cs ty):b<w.heap.size:=(Array.getElem?_eq_some_iff.1 h).1
theorem gG.cell(h:gG w b cs ty){k:Nat}{x:Value}(hk:cs[k]?=some x):w.cell? ⟨b,k,none⟩=some x:=by unfold gG at h;simp[World.cell?,h,hk]
theorem gG.free(h:gG w b cs ty)(k:Nat):w.frozen? ⟨b,k,none⟩=false:=by unfold gG at h;simp[World.frozen?,h]
theorem gG.put(h:gG w b cs ty)(k:Nat)(x:Value):gG (w.setCell ⟨b,k,none⟩ x) b (cs.set k x) ty:=by
 unfold gG at*
 simp only[World.setCell,Array.getElem?_modify,if_true];rw[h];simp only[Option.map_some,Option.isSome_none,Bool.false_eq_true,if_false,List.setIfInBounds_toArray]
theorem gG.go(h:gG w b cs ty){s:Nat}(hb:Below s w w')(hs:b<s):gG w' b cs ty:=by unfold gG at*;rw[hb.block b hs];exact h
theorem gG.drew(h:gG w b cs ty):gG w.drew b cs ty:=h
end
theorem gG.sameRow{w:World}{b:Nat}{cs:List Value}{ty:TypeId}(h:gG w b cs ty):w.setRow b cs.toArray=w:=by
 have:=setRow_heap w b cs.toArray cs.toArray ty (0,0) h;have e:(w.setRow b cs.toArray).heap=w.heap:=by
  apply Array.ext_getElem?;intro i;by_cases hi:i=b;·subst hi;rw[this];exact h.symm
  rw[setRow_other w b i _ hi]
 cases w;simp only[World.setRow]at e |-;rw[e]
theorem U3:(prog.info? 67).map (fun i=>i.size)=some 4:=by kernel_rfl
theorem sW:(prog.info? 68).map (fun i=>i.size)=some 36:=by kernel_rfl
theorem nC{W:World}{b:Nat}{cs:List Value}{ty:TypeId}(h:gG W b cs ty)(j:Nat){u0 u1 u2 u3:Value}(h0:cs[j]?=some u0)(h1:cs[j+1]?=some u1)(h2:cs[j+2]?=some u2)(h3:cs[j+3]?=some u3)(n:Int)(p q:Bool)(f:Fn):
 ∃W',(Instr.storeAt 67 (.pointer (some ⟨b,j,none⟩)) (.agg #[.int .i64 n,.bool p,.bool q,.func f #[] #[]])).run prog W=.ok () W'/\gG W' b ((((cs.set j (.int .i64 n)).set (j+1) (.bool p)).set (j+2) (.bool q)).set (j+3) (.func f #[] #[])) ty/\∀(s:Nat) (x:World),Below s x W->s<=b->Below s x W':=by
 have c0:=h.cell h0;have c1:=h.cell h1;have c2:=h.cell h2;have c3:=h.cell h3;have f0:=h.free j;have f1:=h.free (j+1);have f2:=h.free (j+2);have f3:=h.free (j+3);have hs:=U3;refine⟨_,?_,(((h.put j (.int .i64 n)).put (j+1) (.bool p)).put (j+2) (.bool q)).put (j+3) (.func f #[] #[]),fun s x hb hsb=>(((hb.setCell (p:=⟨b,j,none⟩) hsb _).setCell (p:=⟨b,j+1,none⟩) hsb _).setCell (p:=⟨b,j+2,none⟩) hsb _).setCell (p:=⟨b,j+3,none⟩) hsb _⟩
 cases hq:prog.info? 67 with
 |none=>simp[hq]at hs
 |some i=>
  have hi:i.size=4:=by simpa[hq]using hs
  simp[Instr.storeAt,Instr.sureAddr,storeVar,sizeOf,typeInfo,hq,hi,storeCells,Value.cells,go_sem,Go.WideShapes.add_plain,run_store_int,run_store_bool,run_store_func,stored,c0,c1,c2,c3,f0,f1,f2,f3]
def opsL:List Value:= [.int .i64 0,.bool false,.bool false,.nilFunc,.int .i64 0,.bool false,.bool true,.func (.func 42) #[] #[],.int .i64 0,.bool true,.bool false,.func (.func 43) #[] #[],.int .i64 2,.bool false,.bool false,.func (.func 44) #[] #[],.int .i64 2,.bool false,.bool false,.func (.func 46) #[] #[],.int .i64 1,.bool false,.bool true,.func (.func 48) #[] #[],.int .i64 2,.bool false,.bool false,.func (.func 50) #[] #[],.int .i64 2,.bool false,.bool false,.func (.func 52) #[] #[],.int .i64 4,.bool false,.bool false,.func (.func 53) #[] #[]]
attribute [-go_sem] Instr.storeAt Instr.loadAt
theorem tq(w:World):CB 24 #[] (.agg opsL.toArray) w:=by
 refine wid ?_;obtain⟨W0,hW0⟩:=aC (w.alloc (.cells #[.int .i64 0,.bool false,.bool false,.nilFunc,.int .i64 0,.bool false,.bool false,.nilFunc,.int .i64 0,.bool false,.bool false,.nilFunc,.int .i64 0,.bool false,.bool false,.nilFunc,.int .i64 0,.bool false,.bool false,.nilFunc,.int .i64 0,.bool false,.bool false,.nilFunc,.int .i64 0,.bool false,.bool false,.nilFunc,.int .i64 0,.bool false,.bool false,.nilFunc,.int .i64 0,.bool false,.bool false,.nilFunc] 68));have R0:gG W0 w.heap.size [.int .i64 0,.bool false,.bool false,.nilFunc,.int .i64 0,.bool false,.bool false,.nilFunc,.int .i64 0,.bool false,.bool false,.nilFunc,.int .i64 0,.bool false,.bool false,.nilFunc,.int .i64 0,.bool false,.bool false,.nilFunc,.int .i64 0,.bool false,.bool false,.nilFunc,.int .i64 0,.bool false,.bool false,.nilFunc,.int .i64 0,.bool false,.bool false,.nilFunc,.int .i64 0,.bool false,.bool false,.nilFunc] 68:=by rw[<-hW0];exact heap_alloc_new w _
 have B0:Below w.heap.size w W0:=by rw[<-hW0];exact bel
 obtain⟨W1,S1,r1,b1⟩:=nC R0 4 rfl rfl rfl rfl 0 false true (.func 42);have R1:gG W1 w.heap.size [.int .i64 0,.bool false,.bool false,.nilFunc,.int .i64 0,.bool false,.bool true,.func (.func 42) #[] #[],.int .i64 0,.bool false,.bool false,.nilFunc,.int .i64 0,.bool false,.bool false,.nilFunc,.int .i64 0,.bool false,.bool false,.nilFunc,.int .i64 0,.bool false,.bool false,.nilFunc,.int .i64 0,.bool false,.bool false,.nilFunc,.int .i64 0,.bool false,.bool false,.nilFunc,.int .i64 0,.bool false,.bool false,.nilFunc] 68:=r1;have B1:=b1 _ _ B0 (Nat.le_refl _);clear r1 b1;obtain⟨W2,S2,r2,b2⟩:=nC R1 8 rfl rfl rfl rfl 0 true false (.func 43);have R2:gG W2 w.heap.size [.int .i64 0,.bool false,.bool false,.nilFunc,.int .i64 0,.bool false,.bool true,.func (.func 42) #[] #[],.int .i64 0,.bool true,.bool false,.func (.func 43) #[] #[],.int .i64 0,.bool false,.bool false,.nilFunc,.int .i64 0,.bool false,.bool false,.nilFunc,.int .i64 0,.bool false,.bool false,.nilFunc,.int .i64 0,.bool false,.bool false,.nilFunc,.int .i64 0,.bool false,.bool false,.nilFunc,.int .i64 0,.bool false,.bool false,.nilFunc] 68:=r2;have B2:=b2 _ _ B1 (Nat.le_refl _);clear r2 b2;obtain⟨W3,S3,r3,b3⟩:=nC R2 12 rfl rfl rfl rfl 2 false false (.func 44);have R3:gG W3 w.heap.size [.int .i64 0,.bool false,.bool false,.nilFunc,.int .i64 0,.bool false,.bool true,.func (.func 42) #[] #[],.int .i64 0,.bool true,.bool false,.func (.func 43) #[] #[],.int .i64 2,.bool false,.bool false,.func (.func 44) #[] #[],.int .i64 0,.bool false,.bool false,.nilFunc,.int .i64 0,.bool false,.bool false,.nilFunc,.int .i64 0,.bool false,.bool false,.nilFunc,.int .i64 0,.bool false,.bool false,.nilFunc,.int .i64 0,.bool false,.bool false,.nilFunc] 68:=r3;have B3:=b3 _ _ B2 (Nat.le_refl _);clear r3 b3;obtain⟨W4,S4,r4,b4⟩:=nC R3 16 rfl rfl rfl rfl 2 false false (.func 46);have R4:gG W4 w.heap.size [.int .i64 0,.bool false,.bool false,.nilFunc,.int .i64 0,.bool false,.bool true,.func (.func 42) #[] #[],.int .i64 0,.bool true,.bool false,.func (.func 43) #[] #[],.int .i64 2,.bool false,.bool false,.func (.func 44) #[] #[],.int .i64 2,.bool false,.bool false,.func (.func 46) #[] #[],.int .i64 0,.bool false,.bool false,.nilFunc,.int .i64 0,.bool false,.bool false,.nilFunc,.int .i64 0,.bool false,.bool false,.nilFunc,.int .i64 0,.bool false,.bool false,.nilFunc] 68:=r4;have B4:=b4 _ _ B3 (Nat.le_refl _);clear r4 b4;obtain⟨W5,S5,r5,b5⟩:=nC R4 20 rfl rfl rfl rfl 1 false true (.func 48);have R5:gG W5 w.heap.size [.int .i64 0,.bool false,.bool false,.nilFunc,.int .i64 0,.bool false,.bool true,.func (.func 42) #[] #[],.int .i64 0,.bool true,.bool false,.func (.func 43) #[] #[],.int .i64 2,.bool false,.bool false,.func (.func 44) #[] #[],.int .i64 2,.bool false,.bool false,.func (.func 46) #[] #[],.int .i64 1,.bool false,.bool true,.func (.func 48) #[] #[],.int .i64 0,.bool false,.bool false,.nilFunc,.int .i64 0,.bool false,.bool false,.nilFunc,.int .i64 0,.bool false,.bool false,.nilFunc] 68:=r5;have B5:=b5 _ _ B4 (Nat.le_refl _);clear r5 b5;obtain⟨W6,S6,r6,b6⟩:=nC R5 24 rfl rfl rfl rfl 2 false false (.func 50);have R6:gG W6 w.heap.size [.int .i64 0,.bool false,.bool false,.nilFunc,.int .i64 0,.bool false,.bool true,.func (.func 42) #[] #[],.int .i64 0,.bool true,.bool false,.func (.func 43) #[] #[],.int .i64 2,.bool false,.bool false,.func (.func 44) #[] #[],.int .i64 2,.bool false,.bool false,.func (.func 46) #[] #[],.int .i64 1,.bool false,.bool true,.func (.func 48) #[] #[],.int .i64 2,.bool false,.bool false,.func (.func 50) #[] #[],.int .i64 0,.bool false,.bool false,.nilFunc,.int .i64 0,.bool false,.bool false,.nilFunc] 68:=r6;have B6:=b6 _ _ B5 (Nat.le_refl _);clear r6 b6;obtain⟨W7,S7,r7,b7⟩:=nC R6 28 rfl rfl rfl rfl 2 false false (.func 52);have R7:gG W7 w.heap.size [.int .i64 0,.bool false,.bool false,.nilFunc,.int .i64 0,.bool false,.bool true,.func (.func 42) #[] #[],.int .i64 0,.bool true,.bool false,.func (.func 43) #[] #[],.int .i64 2,.bool false,.bool false,.func (.func 44) #[] #[],.int .i64 2,.bool false,.bool false,.func (.func 46) #[] #[],.int .i64 1,.bool false,.bool true,.func (.func 48) #[] #[],.int .i64 2,.bool false,.bool false,.func (.func 50) #[] #[],.int .i64 2,.bool false,.bool false,.func (.func 52) #[] #[],.int .i64 0,.bool false,.bool false,.nilFunc] 68:=r7;have B7:=b7 _ _ B6 (Nat.le_refl _);clear r7 b7;obtain⟨W8,S8,r8,b8⟩:=nC R7 32 rfl rfl rfl rfl 4 false false (.func 53);have R8:gG W8 w.heap.size [.int .i64 0,.bool false,.bool false,.nilFunc,.int .i64 0,.bool false,.bool true,.func (.func 42) #[] #[],.int .i64 0,.bool true,.bool false,.func (.func 43) #[] #[],.int .i64 2,.bool false,.bool false,.func (.func 44) #[] #[],.int .i64 2,.bool false,.bool false,.func (.func 46) #[] #[],.int .i64 1,.bool false,.bool true,.func (.func 48) #[] #[],.int .i64 2,.bool false,.bool false,.func (.func 50) #[] #[],.int .i64 2,.bool false,.bool false,.func (.func 52) #[] #[],.int .i64 4,.bool false,.bool false,.func (.func 53) #[] #[]] 68:=r8;have B8:=b8 _ _ B7 (Nat.le_refl _);clear r8 b8;have hl:(Instr.loadAt 68 (.pointer (some ⟨w.heap.size,0,none⟩))).run prog W8=.ok (.agg opsL.toArray) W8:=by show(loadVar _ _).run _ _=_;exact run_loadVar_row W8 w.heap.size 68 68 opsL.toArray (0,0) _ R8 underlying68 rfl sW
 have hst:(Instr.storeAt 68 (.pointer (some ⟨w.heap.size,0,none⟩)) (.agg opsL.toArray)).run prog W8=.ok () (W8.setRow w.heap.size opsL.toArray):=by show(storeVar _ _ _).run _ _=_;exact run_storeVar_row W8 w.heap.size 68 68 opsL.toArray opsL.toArray R8 sW rfl (by simp[opsL,Value.oneCell'])
 have R9:gG W8 w.heap.size opsL 68:=R8;rw[R9.sameRow]at hst;have HR:=Hd2 R9 B8;clear R0 R1 R2 R3 R4 R5 R6 R7 R8 R9 B0 B1 B2 B3 B4 B5 B6 B7 B8;refine ent func24 rfl ntmps24 ?_;gi_wp2;refine⟨rfl,.agg opsL.toArray,results_cell_row rfl _ W8 w.heap.size 68 opsL.toArray (0,0) _ rfl HR.out.1 underlying68 rfl sW,rfl,HR.out.2⟩
end
section
attribute [-go_sem] Instr.storeAt
theorem Bh(w:World)(cs ds:Array Value)(ty:TypeId):(w.alloc (.cells cs ty)).setRow w.heap.size ds=w.alloc (.cells ds ty):=by
 have h1:=heap_alloc_new w (.cells cs ty);have h2:=setRow_heap (w.alloc (.cells cs ty)) w.heap.size cs ds ty (0,0) h1;have h3:=heap_alloc_new w (.cells ds ty);have e:((w.alloc (.cells cs ty)).setRow w.heap.size ds).heap=(w.alloc (.cells ds ty)).heap:=by
  apply Array.ext_getElem?;intro i;by_cases hi:i=w.heap.size;·subst hi;rw[h2,h3]
  rw[setRow_other _ _ i _ hi];rcases Nat.lt_or_gt_of_ne hi with hl|hl;·rw[Below.heap_alloc w _ i hl,Below.heap_alloc w _ i hl]
  rw[Array.getElem?_eq_none (by simp;omega),Array.getElem?_eq_none (by simp;omega)]
 generalize hA:(w.alloc (.cells cs ty)).setRow w.heap.size ds=A at*
 generalize hB:w.alloc (.cells ds ty)=B at*
 have o1:A.os=B.os:=by rw[<-hA,<-hB];rfl
 have o2:A.output=B.output:=by rw[<-hA,<-hB];rfl
 have o3:A.tape=B.tape:=by rw[<-hA,<-hB];rfl
 have o4:A.drawn=B.drawn:=by rw[<-hA,<-hB];rfl
 cases A;cases B;simp only at e o1 o2 o3 o4;subst e o1 o2 o3 o4;rfl
theorem tY{w:World}{ty:TypeId}{cs ds:Array Value}(hi:(prog.info? ty).map (·.size)=some ds.size)(hs:cs.size=ds.size)(h1:ds.all (·.oneCell')=true):
 (Instr.storeAt ty (.pointer (some ⟨w.heap.size,0,none⟩)) (.agg ds)).run prog (w.alloc (.cells cs ty))=.ok () (w.alloc (.cells ds ty)):=by
 show(storeVar _ _ _).run _ _=_;rw[run_storeVar_row (w.alloc (.cells cs ty)) w.heap.size ty ty cs ds (heap_alloc_new w _) hi hs h1,Bh]
theorem z_:(prog.info? 38).map (fun i=>i.size)=some 9:=by kernel_rfl
theorem dR(n:Int):bf n 1=(n==0):=by
 by_cases h:n=0;·subst h;rfl
 have:¬(0<=n/\n<1):=by omega
 simp[bf,this,h]
theorem KN(i m a b c d:Int)(r:RatR):aj i m (1,a,b,c,d,r)=fH 0 false true i m (1,a,b,c,d,r):=by exact ac4
theorem KQ(i m a b c d:Int)(r:RatR):aj i m (2,a,b,c,d,r)=fH 0 true false i m (2,a,b,c,d,r):=by exact ac4
theorem KR(i m a b c d:Int)(r:RatR):aj i m (3,a,b,c,d,r)=fH 2 false false i m (3,a,b,c,d,r):=by exact ac4
theorem KT(i m a b c d:Int)(r:RatR):aj i m (4,a,b,c,d,r)=fH 2 false false i m (4,a,b,c,d,r):=by exact ac4
theorem KU(i m a b c d:Int)(r:RatR):aj i m (5,a,b,c,d,r)=fH 1 false true i m (5,a,b,c,d,r):=by exact ac4
theorem KX(i m a b c d:Int)(r:RatR):aj i m (6,a,b,c,d,r)=fH 2 false false i m (6,a,b,c,d,r):=by exact ac4
theorem Lp(i m a b c d:Int)(r:RatR):aj i m (7,a,b,c,d,r)=fH 2 false false i m (7,a,b,c,d,r):=by exact ac4
theorem MG(i m a b c d:Int)(r:RatR):aj i m (8,a,b,c,d,r)=fH 4 false false i m (8,a,b,c,d,r):=by exact ac4
set_option maxRecDepth 100000 in
theorem y8{p:Prop}(h:p:=by
 have HR:=Hd (HU.out▸hr);have HRI:=Hd hr;clear hr;gi_wp2;refine ak [] (List.range 20) (by kernel_rfl) (by kernel_rfl) ?_;simp only[show List.range 20= [0,1,2,3,4,5,6,7,8,9,10,11,12,13,14,15,16,17,18,19]from rfl];refine eH ?_;refine aH fun K hK=>aA rfl rfl wy fun K' hK'=>?_;gi_wp2;refine Cm (DC (r:=r) (H.out.2.2.le (w':=W6.drew) (Nat.le_trans hb.size HX.out.2.2.2.2.2.size)) HX.out.2.2.1 HX.out.2.2.2.1 (HX.out.1.keep (Keeps.refl _ _).drew) (HX.out.2.1.keep (Keeps.refl _ _).drew)) ?_;rintro e w8 ⟨rfl,hb8⟩;rw[HR.out];have B8:=Hd (show Below w.heap.size w w8 from(hb.trans (HX.out.2.2.2.2.2.mono hb.size)).drew.trans (hb8.mono (Nat.le_trans hb.size HX.out.2.2.2.2.2.size)));have RO8:=Hd (xY.drew.go hb8 xY.lt);refine hK' _ _ ⟨?_,hK _ _ ?_⟩;clear hK' K' hK K;·exact Keeps.of_below hb8 []
 refine lit ?_;clear hb8;refine eH ?_;refine aK ?_;refine lit ?_;gi_wp2
 first
  |(have z:_=false:=HRI.out;have HF:=Hd (show fC l m=190 by rw[HE.out,qN HX.out.2.2.2.2.1 HRI.out];rfl);go_ret;exact⟨by first|(rw[HF.out];done)|(rw[HF.out];rfl),B8.out⟩)
  |(exact⟨⟨k+1,by omega,by go_num,Hd (fun j y hj hy=>by
      by_cases e:j=k;·subst e;rw[HX.out.2.2.2.2.1]at hy;cases hy;exact HRI.out
      exact ht.out j y (by omega) hy),RO8,B8.out⟩,by simp[intOf];omega⟩)):p:=h
set_option maxRecDepth 100000 in
set_option maxHeartbeats 16000000 in
theorem qU(A:Option Addr)(n c:Nat)(l:List InsR)(m:Int)(w:World)(hM:b_ M w)(hx:Sl InsR w M A n c l):
 CB 11 #[.slice A n c,.int .i64 m] (.int .i64 (fC l m)) w:=by
 refine wid ?_;have hs:=hx.small;have H:=fB hx hx.len hM;have HD:=Hd (show fC l m=if n<1\/4096<n then 190 else if iy m 0 l then 0 else 190 by unfold fC;rw[hx.len]);clear hx hM;by_cases h1:n<1;·have HE:=Hd (show fC l m=190 by rw[HD.out,if_pos (.inl h1)]);refine ent func11 rfl ntmps11 ?_;exact adN
 by_cases h2:4096<n;·have HE:=Hd (show fC l m=190 by rw[HD.out,if_pos (.inr h2)]);refine ent func11 rfl ntmps11 ?_;exact adN
 have HE:=Hd (show fC l m=if iy m 0 l then 0 else 190 by rw[HD.out,if_neg (by omega)]);clear HD;obtain⟨OV,Xy⟩:∃OV:Array Value,opsL.toArray=OV:=⟨_,rfl⟩;refine ent func11 rfl ntmps11 ?_
 gi_wp2_with (refine Cl 24 (tq _) ?_;rintro e w2 ⟨rfl,hb2⟩;rw[Xy];obtain⟨W3,hW3⟩:=aC (w2.alloc (.cells OV 68));have hst:(Instr.storeAt 68 (.pointer (some ⟨w2.heap.size,0,none⟩)) (.agg OV)).run prog (w2.alloc (.cells #[.int .i64 0,.bool false,.bool false,.nilFunc,.int .i64 0,.bool false,.bool false,.nilFunc,.int .i64 0,.bool false,.bool false,.nilFunc,.int .i64 0,.bool false,.bool false,.nilFunc,.int .i64 0,.bool false,.bool false,.nilFunc,.int .i64 0,.bool false,.bool false,.nilFunc,.int .i64 0,.bool false,.bool false,.nilFunc,.int .i64 0,.bool false,.bool false,.nilFunc,.int .i64 0,.bool false,.bool false,.nilFunc] 68))=.ok () W3:=by
               rw[<-hW3,<-Xy];exact tY sW rfl (by simp[opsL,Value.oneCell'])
              have R3:Hid (gG W3 w2.heap.size opsL 68):=by rw[<-hW3,<-Xy];exact heap_alloc_new w2 _
              have B3:Hid (Below w.heap.size w W3):=by rw[<-hW3];exact hb2.alloc hb2.size _
              clear hb2)
 obtain⟨bo,Xr⟩:=aC w2.heap.size;rw[Xr]at R3 |-;clear hst hW3 Xy;gi_loopw[19] (fun i wr=>∃k:Nat,k<=n/\i=.int .i64 k/\Hid (∀(j:Nat) (x:InsR),j<k->l[j]?=some x->aj j m x=true)/\Hid (gG wr bo opsL 68)/\Below w.heap.size w wr) (fun i _=>n-(intOf i).toNat);case atStart=>exact⟨0,Nat.zero_le _,rfl,Hd (fun j x hj=>by omega),R3,B3.out⟩
 case round=>
  obtain⟨k,hk,rfl,ht,hRO,hb⟩:=hrel;by_cases hlt:k<n
  ·obtain⟨x,hx⟩:=dW l k (by rw[H.out.2.1];exact hlt);obtain⟨op,xa,xb,xc,xd,r⟩:=x;obtain⟨b,o,A1,n1,c1,A2,n2,c2,rfl,⟨g0,g1,g2,g3,g4⟩,⟨h5,h6,h7,h8⟩,hi64,s1,s2⟩:=(H.out.1.go hb).insat hx;obtain⟨p,hp⟩:=aC r.1.1;obtain⟨q,hq⟩:=aC r.2.1;rw[hp]at h5;rw[hq]at h7;obtain⟨W6,X0⟩:=aC (wr.alloc (.cells #[.int .i64 op,.int .i64 xa,.int .i64 xb,.int .i64 xc,.int .i64 xd,.bool p,.slice A1 n1 c1,.bool q,.slice A2 n2 c2] 38));have hfi:(Instr.storeAt 38 (.pointer (some ⟨wr.heap.size,0,none⟩)) (.agg #[.int .i64 op,.int .i64 xa,.int .i64 xb,.int .i64 xc,.int .i64 xd,.bool p,.slice A1 n1 c1,.bool q,.slice A2 n2 c2])).run prog (wr.alloc (.cells #[.int .i64 0,.int .i64 0,.int .i64 0,.int .i64 0,.int .i64 0,.bool false,.slice none 0 0,.bool false,.slice none 0 0] 38))=.ok () W6:=by rw[<-X0];exact tY z_ rfl (by simp[Value.oneCell'])
   have b6:Below wr.heap.size wr W6:=by rw[<-X0];exact bel
   have R6:gG W6 wr.heap.size [.int .i64 op,.int .i64 xa,.int .i64 xb,.int .i64 xc,.int .i64 xd,.bool p,.slice A1 n1 c1,.bool q,.slice A2 n2 c2] 38:=by rw[<-X0];exact heap_alloc_new wr _
   have xY:gG W6 bo opsL 68:=hRO.out.go b6 hRO.out.lt;have HX:=Zw (s1.go b6) (s2.go b6) hp hq hx b6;have v0:=ah (R6.cell (k:=0) rfl);have v1:=ah (R6.cell (k:=1) rfl);have v2:=ah (R6.cell (k:=2) rfl);have v3:=ah (R6.cell (k:=3) rfl);have v4:=ah (R6.cell (k:=4) rfl);have v5:=ah (R6.cell (k:=5) rfl);have v6:=ah (R6.cell (k:=6) rfl);have v7:=ah (R6.cell (k:=7) rfl);have v8:=ah (R6.cell (k:=8) rfl);clear s1 s2 hx hp hq b6 R6;by_cases ho1:op<1;·exact ada
   have hd1:decide (op<1)=false:=decide_eq_false ho1;by_cases Uj:8<op;·have hd8:decide (8<op)=true:=decide_eq_true Uj;exact ada
   have hop:op=1\/op=2\/op=3\/op=4\/op=5\/op=6\/op=7\/op=8:=by omega
   clear ho1 Uj hd1;rcases hop with rfl|rfl|rfl|rfl|rfl|rfl|rfl|rfl;·have y0:=ah (xY.cell (k:=4) (x:=.int .i64 0) rfl);have y1:=ah (xY.cell (k:=4+1) (x:=.bool false) rfl);have y2:=ah (xY.cell (k:=4+2) (x:=.bool true) rfl);have HU:=Hd (KN k m xa xb xc xd r);cases hr:aj k m (1,xa,xb,xc,xd,r)<;>exact y8
   ·have y0:=ah (xY.cell (k:=8) (x:=.int .i64 0) rfl);have y1:=ah (xY.cell (k:=8+1) (x:=.bool true) rfl);have y2:=ah (xY.cell (k:=8+2) (x:=.bool false) rfl);have HU:=Hd (KQ k m xa xb xc xd r);cases hr:aj k m (2,xa,xb,xc,xd,r)<;>exact y8
   ·have y0:=ah (xY.cell (k:=12) (x:=.int .i64 2) rfl);have y1:=ah (xY.cell (k:=12+1) (x:=.bool false) rfl);have y2:=ah (xY.cell (k:=12+2) (x:=.bool false) rfl);have HU:=Hd (KR k m xa xb xc xd r);cases hr:aj k m (3,xa,xb,xc,xd,r)<;>exact y8
   ·have y0:=ah (xY.cell (k:=16) (x:=.int .i64 2) rfl);have y1:=ah (xY.cell (k:=16+1) (x:=.bool false) rfl);have y2:=ah (xY.cell (k:=16+2) (x:=.bool false) rfl);have HU:=Hd (KT k m xa xb xc xd r);cases hr:aj k m (4,xa,xb,xc,xd,r)<;>exact y8
   ·have y0:=ah (xY.cell (k:=20) (x:=.int .i64 1) rfl);have y1:=ah (xY.cell (k:=20+1) (x:=.bool false) rfl);have y2:=ah (xY.cell (k:=20+2) (x:=.bool true) rfl);have HU:=Hd (KU k m xa xb xc xd r);cases hr:aj k m (5,xa,xb,xc,xd,r)<;>exact y8
   ·have y0:=ah (xY.cell (k:=24) (x:=.int .i64 2) rfl);have y1:=ah (xY.cell (k:=24+1) (x:=.bool false) rfl);have y2:=ah (xY.cell (k:=24+2) (x:=.bool false) rfl);have HU:=Hd (KX k m xa xb xc xd r);cases hr:aj k m (6,xa,xb,xc,xd,r)<;>exact y8
   ·have y0:=ah (xY.cell (k:=28) (x:=.int .i64 2) rfl);have y1:=ah (xY.cell (k:=28+1) (x:=.bool false) rfl);have y2:=ah (xY.cell (k:=28+2) (x:=.bool false) rfl);have HU:=Hd (Lp k m xa xb xc xd r);cases hr:aj k m (7,xa,xb,xc,xd,r)<;>exact y8
   have y0:=ah (xY.cell (k:=32) (x:=.int .i64 4) rfl);have y1:=ah (xY.cell (k:=32+1) (x:=.bool false) rfl);have y2:=ah (xY.cell (k:=32+2) (x:=.bool false) rfl);have HU:=Hd (MG k m xa xb xc xd r);cases hr:aj k m (8,xa,xb,xc,xd,r)<;>exact y8
  ·exact adE
end
end
end Go.Proofs.YtefnknhjlejalaaGreatDoor
