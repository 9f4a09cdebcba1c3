/- Lemmas and walks; no statement is proved here. -/
import Derived.Test.YtefnknhjlejalaaGreatDoorM48
set_option linter.unusedVariables false
set_option linter.unusedSimpArgs false
set_option maxRecDepth 20000
set_option maxHeartbeats 6000000
namespace Go.Proofs.YtefnknhjlejalaaGreatDoor
open Go.Proofs.Tryz Go.RowKit Go.Shelf
theorem aeQ{p:Prop}(h:p:=by rintro e w' ⟨u,rfl,hq,hb⟩;exact⟨u,by rw[if_pos he,he,hp.len],by rw[if_pos he];exact hq.rv,hb⟩):p:=h
theorem ae_{p:Prop}(h:p:=by rintro e w' ⟨rfl,hb⟩;exact⟨EP,by rw[if_neg he],by rw[if_neg he];exact X8 _ _,hb⟩):p:=h
variable {x:RatR}{M:List Nat}{w:World}{A B:Option Addr}{n c m d:Nat}{p:List InsR}{l:List RatR}{fuel:Int}
section
attribute [local go_sem] Oper.semAt_some
def few3B(x:RatR):Bool:=decide (x.1.2.length<=3)&&decide (x.2.2.length<=3)
theorem few3B_iff(h:few3B x=true):Few3 x:=by unfold few3B at h;rw[Bool.and_eq_true,decide_eq_true_eq,decide_eq_true_eq]at h;exact h
theorem fewR19_any{v:Value}(hx:RV w M v x):
 CB 22 #[v] (.bool (few3B x)) w:=by
 refine wid ?_;obtain⟨A,n,c,B,m,d,rfl,a1,a2⟩:=hx;obtain⟨⟨p,l⟩,⟨q,k⟩⟩:=x;simp only at a1 a2;have hE:few3B ((p,l),(q,k))=(decide (n<=3)&&decide (m<=3)):=by show(decide (l.length<=3)&&decide (k.length<=3))=_;rw[a1.len,a2.len]
 rw[hE];have hs1:=a1.small;have hs2:=a2.small;obtain⟨W1,hW1,F1⟩:=nam ((Fr.nil w).a w.heap.size [.bool p,.slice A n c,.bool q,.slice B m d] 30);have o1:=opc F1;have F:=Hd F1;clear F1 a1 a2 hE;by_cases h1:n<=3
 ·by_cases h2:m<=3
  all_goals
   have g1:((n:Nat):Int)<=3:=by omega
   refine ent func22 rfl ntmps22 ?_;gi_wp2;go_ret;exact⟨by simp[h1,h2]<;>omega,F.out.bl⟩
 ·have g1:¬((n:Nat):Int)<=3:=by omega
  refine ent func22 rfl ntmps22 ?_;gi_wp2
  all_goals first
   |(go_ret;exact⟨by simp[h1],F.out.bl⟩)
   |exact(undef_not (by assumption)).elim
structure Fw19(p:List InsR)(l:List RatR):Prop where
 np:p.length<=60\/4096<p.length/\p.length<=4200
 nl:l.length<=80
 fp:∀x,x∈p.take 70->Few3 x.2.2.2.2.2
 fl:∀x,x∈l->Few3 x
def F9R(w:World)(n:Nat)(Q:Nat->Prop)(i:Value)(wr:World):Prop:=∃k:Nat,k<=n/\i=.int .i64 k/\Hid (Q k)/\Hid (Below w.heap.size w wr)
attribute [irreducible] F9R
theorem take_mr{α:Type}{Q:α->Prop}{l:List α}{k:Nat}{x:α}(h:∀y,y∈l.take k->Q y)(hk:l[k]?=some x)(hx:Q x):∀y,y∈l.take (k+1)->Q y:=fun y hy=>by
 rw[take_snoc hk,List.mem_append,List.mem_singleton]at hy;rcases hy with hy|rfl;·exact h y hy
 exact hx
theorem few19_any(hp:Sl InsR w M A n c p)(hl:Sl RatR w M B m d l):
 Calls prog 8 #[.slice A n c,.slice B m d] w (Says (Fw19 p l) w):=by
 refine wid ?_;obtain⟨P,hP⟩:=aC (Fw19 p l);rw[hP];have hsp:=hp.small;have hsl:=hl.small;obtain⟨z,hz⟩:=aC (min n 70);obtain⟨y,hy⟩:=aC (min m 90);have hzn:z<=n/\z<=70/\(z=n\/z=70):=by omega
 have hym:y<=m/\y<=90/\(y=m\/y=90):=by omega
 have H:=Hd5 hp hl hp.len hl.len hP;clear hp hl hP hz hy;refine ent func8 rfl ntmps8 ?_;gi_wp2;gi_loopw[5] (fun i wr=>F9R w z (fun k=>∀x,x∈p.take k->Few3 x.2.2.2.2.2) i wr) (fun i _=>z-(intOf i).toNat);case atStart=>unfold F9R;exact⟨0,Nat.zero_le _,rfl,Hd (by simp),Hd (Below.refl _ _)⟩
 case round=>
  unfold F9R at hrel;obtain⟨k,hk,rfl,hQ,hb⟩:=hrel;by_cases hlt:k<z
  ·have hn1:k<n:=by omega
   have hn2:(k:Int)<70:=by omega
   obtain⟨x,hx⟩:=dW p k (by rw[H.out.2.2.1];exact hn1);obtain⟨op,xa,xb,xc,xd,r⟩:=x;obtain⟨b,o,A1,n1,c1,A2,n2,c2,rfl,-,⟨h0,h1,h2,h3⟩,-,s1,s2⟩:=(H.out.1.go hb.out).insat hx;have HX:=Hd2 (show RV wr M (.agg #[.bool r.1.1,.slice A1 n1 c1,.bool r.2.1,.slice A2 n2 c2]) r from⟨_,_,_,_,_,_,rfl,s1,s2⟩) hx;clear s1 s2 hx;generalize r.1.1=q1 at*;generalize r.2.1=q2 at*;cases hq:few3B r
   all_goals
    have HQ:=Hd hq;clear hq
    gi_wp2_with (first
     |(have X:=fewR19_any HX.out.1;rw[HQ.out]at X;refine Cl 22 X ?_;clear X;rintro e w2 ⟨rfl,hb2⟩;have HB:=Hd (hb.out.trans (hb2.mono hb.out.size));clear hb2)
     |fail)
   ·go_ret;exact Says.no rfl HB.out
   exact⟨by unfold F9R;exact⟨k+1,by omega,by go_num,Hd (take_mr hQ.out HX.out.2 (few3B_iff HQ.out)),HB⟩,by simp[intOf];omega⟩
  ·obtain rfl:k=z:=by omega
   have HP:=Hd (fun x (hx:x∈p.take 70)=>hQ.out x (by
    rcases hzn.2.2 with e|e;·rw[e,List.take_of_length_le (by rw[H.out.2.2.1];exact Nat.le_refl _)];exact List.mem_of_mem_take hx
    rw[e];exact hx))
   have HK:=Hd (show(n<=60\/4096<n/\n<=4200)->m<=80->(∀x,x∈l->Few3 x)->P from fun h1 h2 h3=>H.out.2.2.2.2▸⟨by rw[H.out.2.2.1];exact h1,by rw[H.out.2.2.2.1];exact h2,HP.out,h3⟩);rcases(show k=n\/(k=70/\70<n) by omega)with rfl|⟨rfl,h70⟩
   all_goals
    clear hlt hk hzn;gi_wp2;gi_loopw[6] (fun i wz=>F9R w y (fun j=>∀x,x∈l.take j->Few3 x) i wz) (fun i _=>y-(intOf i).toNat);case atStart=>unfold F9R;exact⟨0,Nat.zero_le _,rfl,Hd (by simp),hb⟩
    case round=>
     unfold F9R at hrel;obtain⟨j,hj,rfl,hL,hb3⟩:=hrel;by_cases hlt:j<y
     ·have hn1:j<m:=by omega
      have hn2:(j:Int)<90:=by omega
      obtain⟨x,hx⟩:=dW l j (by rw[H.out.2.2.2.1];exact hn1);obtain⟨b,o,A1,n1,c1,A2,n2,c2,rfl,h0,h1,h2,h3,s1,s2⟩:=(H.out.2.1.go hb3.out).ratat hx;have HX:=Hd2 (show RV _ M (.agg #[.bool x.1.1,.slice A1 n1 c1,.bool x.2.1,.slice A2 n2 c2]) x from⟨_,_,_,_,_,_,rfl,s1,s2⟩) hx;clear s1 s2 hx;generalize x.1.1=q1 at*;generalize x.2.1=q2 at*;cases hq:few3B x
      all_goals
       have HQ:=Hd hq;clear hq
       gi_wp2_with (first
        |(have X:=fewR19_any HX.out.1;rw[HQ.out]at X;refine Cl 22 X ?_;clear X;rintro e w2 ⟨rfl,hb2⟩;have HB:=Hd (hb3.out.trans (hb2.mono hb3.out.size));clear hb2)
        |fail)
      ·go_ret;exact Says.no rfl HB.out
      exact⟨by unfold F9R;exact⟨j+1,by omega,by go_num,Hd (take_mr hL.out HX.out.2 (few3B_iff HQ.out)),HB⟩,by simp[intOf];omega⟩
     ·obtain rfl:j=y:=by omega
      have hE:m<=80->∀x,x∈l->Few3 x:=fun h x hx=>hL.out x (by rw[List.take_of_length_le (by rw[H.out.2.2.2.1];omega)];exact hx);have HE:=Hd hE;clear hE;rcases(show j=m\/(j=90/\90<m) by omega)with rfl|⟨rfl,h90⟩
      all_goals
       clear hlt hj hym;gi_wp2
       all_goals first
        |exact(undef_not (by assumption)).elim
        |(exfalso;omega)
        |(go_ret;exact Says.no rfl hb3.out)
        |(go_ret;exact Says.yes rfl (HK.out (by omega) (by omega) (HE.out (by omega))) hb3.out)
        |(go_ret;unfold Says;exact⟨_,rfl,fun hb=>by simp only[Bool.and_eq_true,Bool.or_eq_true,decide_eq_true_eq]at hb;exact HK.out (by omega) (by omega) (HE.out (by omega)),hb3.out⟩)
end
structure FwR(p:List InsR)(l:List RatR):Prop where
 np:p.length<=64\/4096<p.length
 fp:p.length<=64->Nl p
 nl:l.length<=100
 fl:∀x,x∈l->Few3 x
theorem Fw19.r(h:Fw19 p l):FwR p l:=⟨by have:=h.np;omega,fun hl x hx=>h.fp x (by rwa [List.take_of_length_le (by omega)]),by have:=h.nl;omega,h.fl⟩
def aat(p:List InsR)(l:List RatR)(fuel:Int):Int:=if oC p l fuel=0 then fuel-p.length else 0
def Bj(p:List InsR)(l:List RatR)(fuel:Int):RatR:=if oC p l fuel=0 then jd (zJ p (l.map OE))else iG
theorem RU:oC p l fuel=0↔fC p l.length=0/\l.all dF=true/\(p.length:Int)<=fuel:=by
 unfold oC;by_cases h1:fC p l.length=0
 ·rw[if_pos h1];by_cases h2:l.all dF=true
  ·rw[if_pos h2];by_cases h3:fuel<(p.length:Int);·rw[if_pos h3];exact⟨fun e=>absurd e (by decide),fun e=>by omega⟩
   rw[if_neg h3];exact⟨fun _=>⟨h1,h2,by omega⟩,fun _=>rfl⟩
  rw[if_neg h2];exact⟨fun e=>absurd e (by decide),fun e=>absurd e.2.1 h2⟩
 rw[if_neg h1];exact⟨fun e=>absurd e (by decide),fun e=>absurd e.1 h1⟩
theorem RX(hn:l.length<=100)(hf:∀x,x∈l->Few3 x)(ho:l.all dF=true):YT 0 (l.map OE):=by refine sV (by simpa using hn) fun x hx=>?_;obtain⟨y,hy,rfl⟩:=List.mem_map.1 hx;exact Uf (List.all_eq_true.1 ho y hy) (hf y hy)
theorem FwR.h{p:List InsR}{l:List RatR}{fuel:Int}{M:List Nat}{A B:Option Addr}{n c m d:Nat}{w:World}(h:FwR p l)(he:oC p l fuel=0)(hM:b_ M w)(hp:Sl InsR w M A n c p)(hl:Sl RatR w M B m d l):ru w M A n c B m d p (l.map OE)/\(n:Int)<=fuel:=by
 obtain⟨h1,h2,h3⟩:=RU.1 he;have abu:p.length<=64:=by have:=((yj p _).1 h1).1.2;have:=h.np;omega
 exact⟨⟨hM,hp,by rw[PK h2];exact hl,by rw[<-hl.len];exact h1,h.fp abu,by rw[<-hp.len];exact abu,RX h.nl h.fl h2⟩,by rw[<-hp.len];exact h3⟩
def MO(M:List Nat)(p:List InsR)(l:List RatR)(fuel:Int)(w:World)(e:Ending)(w':World):Prop:=∃u,e=.returned (.tuple #[u,.int .i64 (aat p l fuel),.int .i64 (oC p l fuel)])/\RV w' M u (Bj p l fuel)/\Below w.heap.size w w'
theorem X8(w:World)(M:List Nat):RV w M EP iG:=⟨none,0,0,none,0,0,rfl,Sl.nil0,Sl.nil0⟩
theorem RY(h:FwR p l)(hM:b_ M w)(hp:Sl InsR w M A n c p)(hl:Sl RatR w M B m d l)(hf:i64 fuel):
 Calls prog 9 #[.slice A n c,.slice B m d,.int .i64 fuel] w (MO M p l fuel w):=by
 unfold MO aat Bj;by_cases he:oC p l fuel=0;·obtain⟨h1,h2⟩:=h.h he hM hp hl;refine(U.Aq h1 h2 hf).mono ?_;exact aeQ
 ·refine(xZ hM hp hl he).mono ?_;exact ae_
theorem RZ(h:FwR p l)(hM:b_ M w)(hp:Sl InsR w M A n c p)(hl:Sl RatR w M B m d l)(hf:i64 fuel):
 Calls prog 10 #[.slice A n c,.slice B m d,.int .i64 fuel] w (MO M p l fuel w):=by
 unfold MO aat Bj;by_cases he:oC p l fuel=0;·obtain⟨h1,h2⟩:=h.h he hM hp hl;refine(Qp h1 h2 hf).mono ?_;exact aeQ
 ·refine(Qq hM hp hl he).mono ?_;exact ae_
section
attribute [local go_sem] Oper.semAt_some
def K19(w:World)(A:Option Addr)(n c:Nat)(p:List InsR)(B:Option Addr)(m d:Nat)(l:List RatR)(V:World):Prop:=Sl InsR V [] A n c p/\Sl RatR V [] B m d l/\Below w.heap.size w V
theorem yR{s f:Int}(hp:Sl InsR w [] A n c p)(hl:Sl RatR w [] B m d l)(hf:i64 f)(ht:Tab w):
 CB 3 #[.slice A n c,.slice B m d,.int .i64 s,.int .i64 f] (.bool true) w:=by
 refine wid ?_;have hsp:=hp.small;have hsl:=hl.small;have J:=Hd (show St w (fun V=>K19 w A n c p B m d l V) by unfold St;exact fun V h=>⟨hp.go h,hl.go h,h⟩);have HT:=Hd ht;clear hp hl ht;refine ent func3 rfl ntmps3 ?_;gi_wp2;refine Cl 7 (FH HT.out) ?_;rintro e w2 ⟨rfl,hb⟩;replace J:=Hd (J.out.go hb);clear hb HT;gi_wp2;refine Cl 8 (few19_any J.out.at_.1 J.out.at_.2.1) ?_;intro e w3 hw;obtain⟨b,rfl,hP,hb⟩:=hw.of;replace J:=Hd (J.out.go hb);clear hb;cases b;·gi_wp2;go_ret;exact⟨rfl,J.out.at_.2.2⟩
 ·have HW:=Hd (hP rfl).r;clear hP;gi_wp2;refine Cl 9 (RY HW.out (b_.nil _) J.out.at_.1 J.out.at_.2.1 hf) ?_;intro e w4 hw;unfold MO at hw;obtain⟨u4,rfl,⟨A4,n4,c4,B4,m4,d4,rfl,s1,s2⟩,hb⟩:=hw;obtain⟨p4,Yc⟩:=aC (Bj p l f).1.1;obtain⟨q4,hq4⟩:=aC (Bj p l f).2.1;rw[Yc,hq4];obtain⟨V4,hV4,hb2,F⟩:=fP (w:=w4) ((Fr.nil w4).a w4.heap.size [.bool p4,.slice A4 n4 c4,.bool q4,.slice B4 m4 d4] 30);replace J:=Hd (((J.out.go hb).go hb2).add (fun V hV=>And.intro (F.go hV) (show RV V [] (.agg #[.bool p4,.slice A4 n4 c4,.bool q4,.slice B4 m4 d4]) (Bj p l f)from⟨_,_,_,_,_,_,by rw[Yc,hq4],(s1.go hb2).go hV,(s2.go hb2).go hV⟩)));clear hb hb2 F s1 s2 Yc hq4;gi_wp2;refine Cl 10 (RZ HW.out (b_.nil _) J.out.at_.2.1 J.out.at_.2.2.1 hf) ?_;intro e w5 hw;unfold MO at hw;obtain⟨u5,rfl,⟨A5,n5,c5,B5,m5,d5,rfl,s1,s2⟩,hb⟩:=hw;obtain⟨p5,EI⟩:=aC (Bj p l f).1.1;obtain⟨q5,hq5⟩:=aC (Bj p l f).2.1;rw[EI,hq5];obtain⟨V5,oM,hb2,F⟩:=fP (w:=w5) ((Fr.nil w5).a w5.heap.size [.bool p5,.slice A5 n5 c5,.bool q5,.slice B5 m5 d5] 30);replace J:=Hd (((J.out.go hb).go hb2).add (fun V hV=>And.intro (F.go hV) (show RV V [] (.agg #[.bool p5,.slice A5 n5 c5,.bool q5,.slice B5 m5 d5]) (Bj p l f)from⟨_,_,_,_,_,_,by rw[EI,hq5],(s1.go hb2).go hV,(s2.go hb2).go hV⟩)));clear hb hb2 F s1 s2 EI hq5;gi_wp2;refine Cl 11 (qU (M:= []) A n c p s _ (b_.nil _) J.out.at_.2.2.1) ?_;rintro e w6 ⟨rfl,hb⟩;replace J:=Hd (J.out.go hb);clear hb;gi_wp2;refine Cl 12 (vO (M:= []) A n c p s _ (b_.nil _) J.out.at_.2.2.1) ?_;rintro e w7 ⟨rfl,hb⟩;replace J:=Hd (J.out.go hb);have o5:=opc J.out.at_.1.1;have o4:=opc J.out.at_.2.1.1;clear hb;gi_wp2;refine Cl 13 (mg J.out.at_.2.1.2 J.out.at_.1.2) ?_;rintro e w8 ⟨rfl,hb⟩;rw[decide_eq_true rfl];replace J:=Hd (J.out.go hb);clear hb;gi_wp2;go_ret;exact⟨by simp,J.out.at_.2.2.2.2⟩
end
end Go.Proofs.YtefnknhjlejalaaGreatDoor
