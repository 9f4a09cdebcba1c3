/- Lemmas and walks; no statement is proved here. -/
import Derived.Test.YtefnknhjlejalaaGreatDoorM45
import Derived.Test.YtefnknhjlejalaaGreatDoorM24
import Derived.Test.YtefnknhjlejalaaGreatDoorM47
set_option linter.unusedVariables false
set_option linter.unusedSimpArgs false
set_option maxRecDepth 20000
set_option maxHeartbeats 6000000
namespace Go.Proofs.YtefnknhjlejalaaGreatDoor
theorem ac9{p:Prop}(h:p:=by
 obtain rfl:k=m:=by omega
 have hall:l.all dF=true:=by
  have:=hA.out
  rwa [List.take_of_length_le (by rw[H.out.2.2];exact Nat.le_refl _)]at this
 have hfu:fuel<(n:Int)/\E=191:=by
  have h1:=HE.out.1;have h2:=HE.out.2;rw[if_pos hall]at h1;by_cases hf:fuel<(n:Int);·rw[if_pos hf]at h1;exact⟨hf,h1⟩
  rw[if_neg hf]at h1;exact absurd h1 h2
 obtain⟨hf,rfl⟩:=hfu;have q0:=aN (hF.out.aQ 0 0);have q1:=aN (hF.out.aQ 0 1);have q2:=aN (hF.out.aQ 0 2);have q3:=aN (hF.out.aQ 0 3);clear hall hlt hk;gi_wp2;exact⟨rfl,.tuple #[EP,.int .i64 0,.int .i64 191],by simp[results,go_sem,oF],rfl,hF.out.bl⟩):p:=h
theorem ad1{p:Prop}(h:p:=by
 have hE:E=100:=by have h1:=HE.out.1;rw[G_ Zy.out HR.out]at h1;simpa using h1
 exact⟨rfl,.tuple #[EP,.int .i64 0,.int .i64 100],by simp[results,go_sem,o3],by rw[hE],G3.out.bl⟩):p:=h
theorem ad9{p:Prop}(h:p:=by exact pG (cs:= [[_,_,_,_], [_,_,_,_], [_,_,_,_], [_,_,_,_]]) (b_.nil _) 30 (Qr.map jd) (qB.cons (uV k.2.2.2.1) (qB.cons (uV k.2.2.1) (qB.cons (uV k.2.1) (qB.cons (uV k.1) qB.nil)))) (by decide)):p:=h
theorem aeI{p:Prop}(h:p:=by exact⟨by unfold Vu;exact⟨k+1,by omega,by go_num,Hd (Dp hA.out Zy.out HR.out),G3⟩,by simp[intOf];omega⟩):p:=h
theorem ae2{p:Prop}(h:p:=by exact⟨rfl,.tuple #[EP,.int .i64 0,.int .i64 190],by simp[results,go_sem,o2],rfl,G2.out.bl⟩):p:=h
theorem ae7{p:Prop}(h:p:=by exact pG (cs:= [[_,_,_,_,_,_,_,_,_]]) (b_.nil _) 38 Qs (qB.cons (EH i5) qB.nil) (by decide)):p:=h
variable {A B:Option Addr}{n m:Nat}{d fuel b a op:Int}{p:List InsR}{l:List RatR}{cs:List (List Value)}{q:Bool}{N:List Nat}
theorem qH{s:ByteArray}(h:s.size<=32):s.size<=maxLen:=Nat.le_trans h (by decide)
theorem ER:(⟨#[]⟩:ByteArray).toList= []:=by rw[ByteArray.toList,ByteArray.toList.loop];rfl
theorem ES{α:Type}{x a b:α}(h:x∈ [a,b]):x=a\/x=b:=by simpa using h
theorem aae:ZH EJ where
 small:=by decide+kernel
 parts y hy:=by rw[show y=Nb from List.mem_singleton.1 hy];decide+kernel
 len:=by decide
 NT t ht:=by cases ht
 z1 x hx:=by rcases ES hx with rfl|rfl<;>exact qH (by decide)
 z2 x hx:=by cases hx
 z3 x hx:=by cases hx
 z4 x hx:=by rw[show x=Nb from List.mem_singleton.1 hx];exact qH (by decide)
 a1:=by decide+kernel
 a2:=by decide+kernel
 a3:=by decide+kernel
 a4:=by decide+kernel
 o1:=by decide+kernel
 o2:=by decide+kernel
 o3:=by decide+kernel
 o4:=by decide+kernel
 name:=by decide+kernel
 keys t ht:=by cases ht
 rounds y hy:=by rw[show y=Nb from List.mem_singleton.1 hy];refine⟨?_,by decide+kernel,by rfl,qH (by decide),.inl ⟨ER,rfl⟩⟩;simp only[au,Nb,Sj,VR,Y2,smA,Ut,XU,and_true];exact⟨qH (by decide),qH (by decide),qH (by decide),qH (by decide)⟩
theorem ET:iZ Sj= [Sj,smA,VR,Y2]:=by simp[Sj,smA,VR,Y2,iZ,Ah]
theorem aa_:∀y,y∈iZ Sj->pX y:=by
 rw[ET];intro y hy;simp only[List.mem_cons,List.not_mem_nil,or_false]at hy;rcases hy with rfl|rfl|rfl|rfl;·exact⟨false,false,rfl,fun _=>ER,(fun e=>by cases e),fun _=>⟨rfl,fun _=>rfl⟩⟩
 ·exact⟨false,true,rfl,(fun e=>by cases e),(fun e=>by cases e),fun _=>⟨rfl,fun _=>rfl⟩⟩
 ·exact⟨true,false,rfl,fun _=>ER,fun _=>by decide,fun e=>by cases e⟩
 exact⟨false,true,rfl,(fun e=>by cases e),(fun e=>by cases e),fun _=>⟨rfl,fun e=>by cases e⟩⟩
theorem zT:Sound EJ:=by
 refine⟨aae,?_,⟨fun _=>0,⟨by decide,(fun t ht=>by cases ht),(fun i t ht=>by cases ht),(fun i hi=>by cases hi),(fun i hi=>by cases hi)⟩⟩,fun i x hx=>?_⟩
 ·refine{ c0:=by simp[EJ],r0:=by simp[EJ],aT:=fun c hc=>?_,bonus:=fun c hc=>(by cases hc),malus:=fun c hc=>(by cases hc),prizes:=trivial,points:=trivial,best:=by decide,bp:=by decide,ties:=(fun t ht=>by cases ht),rounds:=fun x hx=>?_ };·rcases ES hc with rfl|rfl;all_goals refine⟨?_,?_,?_,?_,?_,?_,?_,?_,.inl rfl⟩<;>decide
  rw[show x=Nb from List.mem_singleton.1 hx];refine⟨by decide,by decide,by decide,fun c hc=>?_,(fun e=>by cases e),fun _=>aa_⟩;rcases ES hc with rfl|rfl<;>decide
 obtain rfl:i=0:=by have:=(List.getElem?_eq_some_iff.1 hx).1;simp[EJ]at this;exact this
 obtain rfl:Nb=x:=Option.some.inj hx;refine⟨fun y hy e=>?_,fun h=>absurd h (by decide)⟩;have hy:y∈iZ Sj:=hy;rw[ET]at hy;simp only[List.mem_cons,List.not_mem_nil,or_false]at hy;rcases hy with rfl|rfl|rfl|rfl<;>exact absurd e (by decide)
theorem OH:f_ EJ ((0:Nat):Int) smC:=⟨zT,0,Nb,rfl,rfl,by decide+kernel⟩
theorem GK:jq EJ smC= [⟨3,1⟩,⟨1,2⟩]:=by
 have h1:qJ VU [1,2]=⟨3,1⟩:=by
  unfold qJ;have h:(rU VU [1,2]).sum=3/\(rU VU [1,2]).length=2:=by unfold rU gI;simp[VU,kC,List.mergeSort,List.MergeSort.Internal.splitInTwo,List.merge]
  rw[h.1,h.2];exact rfl
 have h2:qJ VX [0,1]=⟨1,2⟩:=by
  unfold qJ;have h:(rU VX [0,1]).sum=1/\(rU VX [0,1]).length=2:=by unfold rU gI;simp[VX,kC,List.mergeSort,List.MergeSort.Internal.splitInTwo,List.merge]
  rw[h.1,h.2];exact rfl
 unfold jq;simp only[EJ,smC,List.zip_cons_cons,List.zip_nil_right,List.map_cons,List.map_nil];rw[h1,h2]
section
open Go.RowKit Go.Shelf
attribute [local go_sem] Oper.semAt_some
def oC(p:List InsR)(l:List RatR)(fuel:Int):Int:=if fC p l.length=0 then(if l.all dF=true then(if fuel<p.length then 191 else 0)else 100)else 190
def Vu(w:World)(n:Nat)(l:List RatR)(i:Value)(wr:World):Prop:=∃k:Nat,k<=n/\i=.int .i64 k/\Hid ((l.take k).all dF=true)/\Hid (Fr w wr [(w.heap.size,zQ)])
attribute [irreducible] Vu
theorem xZ{M:List Nat}{c d:Nat}{w:World}(hM:b_ M w)(hp:Sl InsR w M A n c p)(hl:Sl RatR w M B m d l)(he:¬oC p l fuel=0):
 CB 9 #[.slice A n c,.slice B m d,.int .i64 fuel] (.tuple #[EP,.int .i64 0,.int .i64 (oC p l fuel)]) w:=by
 refine wid ?_;have hsp:=hp.small;have hsl:=hl.small;obtain⟨E,hE⟩:=aC (oC p l fuel);rw[hE]at he |-;have hE':E=if fC p m=0 then(if l.all dF=true then(if fuel<(n:Int)then 191 else 0)else 100)else 190:=by rw[<-hE,oC,hl.len,hp.len]
 obtain⟨W1,hW1,F1⟩:=nam ((Fr.nil w).a w.heap.size zQ 30);have o1:=opc F1;have X:=qU (M:=M) A n c p (m:Int) W1 (hM.le F1.bl.size) (hp.go F1.bl);have F:=Hd F1;have H:=fB hM hl hl.len;clear hM hp hl hE F1;by_cases hZ:fC p m=0
 ·rw[hZ]at X;rw[if_pos hZ]at hE';have HE:=Hd2 hE' he;have HX:=Hd X;clear X hE' he hZ;refine ent Tryz.func9 rfl Tryz.ntmps9 ?_
  gi_wp2_with (first
   |(refine Cl 11 HX.out ?_;rintro e w2 ⟨rfl,hb2⟩;have F2:=F.out.go hb2;have o2:=opc F2;have G2:=Hd F2;clear hb2 F2)
   |fail)
  gi_loopw[27] (fun i wr=>Vu w m l i wr) (fun i _=>m-(intOf i).toNat);case atStart=>unfold Vu;exact⟨0,Nat.zero_le _,rfl,Hd (by simp),G2⟩
  case round=>
   unfold Vu at hrel;obtain⟨k,hk,rfl,hA,hF⟩:=hrel;have oF:=opc hF.out;by_cases hlt:k<m
   ·obtain⟨x,hx⟩:=dW l k (by rw[H.out.2.2];exact hlt);obtain⟨b,o,A1,n1,c1,A2,n2,c2,rfl,h0,h1,h2,h3,s1,s2⟩:=(H.out.2.1.go hF.out.bl).ratat hx;obtain⟨p1,hp1⟩:=aC x.1.1;obtain⟨q1,hq1⟩:=aC x.2.1;rw[hp1]at h0;rw[hq1]at h2;obtain⟨V,hV,x9,FV⟩:=fP (w:=wr) (hF.out.a wr.heap.size [.bool p1,.slice A1 n1 c1,.bool q1,.slice A2 n2 c2] 30);have oV:=opc FV;have Y:=Em (p:=p1) (q:=q1) (M:=M) (H.out.1.le FV.bl.size) (s1.go x9) (s2.go x9);rw[show((p1,x.1.2),(q1,x.2.2))=x by rw[<-hp1,<-hq1]]at Y;have HV:=Hd FV;have Zy:=Hd hx;cases hr:dF x
    all_goals
     rw[hr]at Y;have HY:=Hd Y;have HR:=Hd hr;clear hr
    all_goals
     clear Y s1 s2 hx hp1 hq1 x9 FV
    ·gi_wp2_with (first
       |(refine Cl 23 HY.out ?_;rintro e w3 ⟨rfl,hb3⟩;have FO:=HV.out.go hb3;have o3:=opc FO;have q0:=aN (FO.aQ 0 0);have q1:=aN (FO.aQ 0 1);have q2:=aN (FO.aQ 0 2);have q3:=aN (FO.aQ 0 3);have G3:=Hd FO;clear hb3 FO)
       |fail)
     exact ad1
    gi_wp2_with (first
     |(refine Cl 23 HY.out ?_;rintro e w3 ⟨rfl,hb3⟩;have G3:=Hd ((HV.out.go hb3).only (L':= [(w.heap.size,zQ)]) fun y hy=>by simp at hy |-;simp[hy]);clear hb3)
     |fail)
    exact aeI
   ·exact ac9
 ·have hZ2:=AQ hZ;rw[hZ2]at X;rw[if_neg hZ]at hE';subst hE';have HX:=Hd X;clear X hZ hZ2 he;refine ent Tryz.func9 rfl Tryz.ntmps9 ?_
  gi_wp2_with (first
   |(refine Cl 11 HX.out ?_;rintro e w2 ⟨rfl,hb2⟩;have F2:=F.out.go hb2;have o2:=opc F2;have q0:=aN (F2.aQ 0 0);have q1:=aN (F2.aQ 0 1);have q2:=aN (F2.aQ 0 2);have q3:=aN (F2.aQ 0 3);have G2:=Hd F2;clear hb2 F2)
   |fail)
  exact ae2
theorem Qq{M:List Nat}{c d:Nat}{w:World}(hM:b_ M w)(hp:Sl InsR w M A n c p)(hl:Sl RatR w M B m d l)(he:¬oC p l fuel=0):
 CB 10 #[.slice A n c,.slice B m d,.int .i64 fuel] (.tuple #[EP,.int .i64 0,.int .i64 (oC p l fuel)]) w:=by
 refine wid ?_;have hsp:=hp.small;have hsl:=hl.small;obtain⟨E,hE⟩:=aC (oC p l fuel);rw[hE]at he |-;have hE':E=if fC p m=0 then(if l.all dF=true then(if fuel<(n:Int)then 191 else 0)else 100)else 190:=by rw[<-hE,oC,hl.len,hp.len]
 obtain⟨W1,hW1,F1⟩:=nam ((Fr.nil w).a w.heap.size zQ 30);have o1:=opc F1;have X:=vO (M:=M) A n c p (m:Int) W1 (hM.le F1.bl.size) (hp.go F1.bl);have F:=Hd F1;have H:=fB hM hl hl.len;clear hM hp hl hE F1;by_cases hZ:fC p m=0
 ·rw[hZ]at X;rw[if_pos hZ]at hE';have HE:=Hd2 hE' he;have HX:=Hd X;clear X hE' he hZ;refine ent Tryz.func10 rfl Tryz.ntmps10 ?_
  gi_wp2_with (first
   |(refine Cl 12 HX.out ?_;rintro e w2 ⟨rfl,hb2⟩;have F2:=F.out.go hb2;have o2:=opc F2;have G2:=Hd F2;clear hb2 F2)
   |fail)
  gi_loopw[10] (fun i wr=>Vu w m l i wr) (fun i _=>m-(intOf i).toNat);case atStart=>unfold Vu;exact⟨0,Nat.zero_le _,rfl,Hd (by simp),G2⟩
  case round=>
   unfold Vu at hrel;obtain⟨k,hk,rfl,hA,hF⟩:=hrel;have oF:=opc hF.out;by_cases hlt:k<m
   ·obtain⟨x,hx⟩:=dW l k (by rw[H.out.2.2];exact hlt);obtain⟨b,o,A1,n1,c1,A2,n2,c2,rfl,h0,h1,h2,h3,s1,s2⟩:=(H.out.2.1.go hF.out.bl).ratat hx;obtain⟨p1,hp1⟩:=aC x.1.1;obtain⟨q1,hq1⟩:=aC x.2.1;rw[hp1]at h0;rw[hq1]at h2;obtain⟨x9,FV⟩:=And.intro (Below.refl wr.heap.size wr) hF.out;have oV:=opc FV;have Y:=MI (p:=p1) (q:=q1) (M:=M) (H.out.1.le FV.bl.size) (s1.go x9) (s2.go x9);rw[show((p1,x.1.2),(q1,x.2.2))=x by rw[<-hp1,<-hq1]]at Y;have HV:=Hd FV;have Zy:=Hd hx;cases hr:dF x
    all_goals
     rw[hr]at Y;have HY:=Hd Y;have HR:=Hd hr;clear hr
    all_goals
     clear Y s1 s2 hx hp1 hq1 x9 FV
    ·gi_wp2_with (first
       |(refine Cl 14 HY.out ?_;rintro e w3 ⟨rfl,hb3⟩;have FO:=HV.out.go hb3;have o3:=opc FO;have q0:=aN (FO.aQ 0 0);have q1:=aN (FO.aQ 0 1);have q2:=aN (FO.aQ 0 2);have q3:=aN (FO.aQ 0 3);have G3:=Hd FO;clear hb3 FO)
       |fail)
     exact ad1
    gi_wp2_with (first
     |(refine Cl 14 HY.out ?_;rintro e w3 ⟨rfl,hb3⟩;have G3:=Hd ((HV.out.go hb3).only (L':= [(w.heap.size,zQ)]) fun y hy=>by simp at hy |-;simp[hy]);clear hb3)
     |fail)
    exact aeI
   ·exact ac9
 ·have hZ2:=AQ hZ;rw[hZ2]at X;rw[if_neg hZ]at hE';subst hE';have HX:=Hd X;clear X hZ hZ2 he;refine ent Tryz.func10 rfl Tryz.ntmps10 ?_
  gi_wp2_with (first
   |(refine Cl 12 HX.out ?_;rintro e w2 ⟨rfl,hb2⟩;have F2:=F.out.go hb2;have o2:=opc F2;have q0:=aN (F2.aQ 0 0);have q1:=aN (F2.aQ 0 1);have q2:=aN (F2.aQ 0 2);have q3:=aN (F2.aQ 0 3);have G2:=Hd F2;clear hb2 F2)
   |fail)
  exact ae2
end
def Nc:List InsR:= [(2,0,0,0,0,iG),(2,1,0,0,0,iG),(5,1,0,0,0,BG 2 1),(3,0,2,0,0,iG)]
def Qr:List Rt:= [⟨3,1⟩,⟨1,2⟩,⟨0,1⟩,⟨0,1⟩]
def Nh:List InsR:= [(1,0,0,0,0,jd ⟨1,2⟩)]
def Qs:List InsR:= [(2,0,0,0,0,iG)]
theorem Qu{n:Int}(h1:0<d)(h2:Int.gcd n d=1)(h3:n.natAbs<1000)(h4:d.natAbs<1000):(⟨n,d⟩:Rt).ok:=⟨h1,h2,pF (k:=1) (Nat.lt_of_lt_of_le h3 (by decide)) (by omega),pF (k:=1) (Nat.lt_of_lt_of_le h4 (by decide)) (by omega)⟩
theorem Qy:BG 2 1=jd ⟨2,1⟩:=rfl
theorem abm:dF (BG 2 1)=true:=by rw[Qy];exact Tv (Qu (by decide) (by decide) (by decide) (by decide))
theorem abn:dF (jd ⟨1,2⟩)=true:=Tv (Qu (by decide) (by decide) (by decide) (by decide))
theorem zzC:kW iG=true:=by decide
theorem QJ:fC Nc 4=0:=by simp[fC,Nc,iy,aj,bf,zzC,abm]
theorem Ey:fC Nh 0=0:=by simp[fC,Nh,iy,aj,abn]
theorem QL:fC Qs 1=0/\fC Qs 0=190:=by constructor<;>simp[fC,Qs,iy,aj,bf,zzC]
theorem QM:YT 0 Qr:=sV (by decide) fun x hx=>by simp only[Qr,List.mem_cons,List.not_mem_nil,or_false]at hx;rcases hx with rfl|rfl|rfl|rfl<;>exact⟨Qu (by decide) (by decide) (by decide) (by decide),Nat.lt_of_lt_of_le (show _<1000 by decide) (by decide),Nat.lt_of_lt_of_le (show _<1000 by decide) (by decide)⟩
theorem Xz(h:n<BB):(bC n).length<=3:=BL (show n<=18446744073709551615 from Nat.le_trans (Nat.le_of_lt h) (by decide))
theorem Q5{n:Int}(h1:n.natAbs<BB)(h2:d.natAbs<BB):Few3 (jd ⟨n,d⟩):=by
 constructor;·show(ints (bC n.natAbs)).length<=3;rw[jm];exact Xz h1
 show(ints (bC d.natAbs)).length<=3;rw[jm];exact Xz h2
theorem Fb:Few3 iG:=⟨by decide,by decide⟩
theorem Vw:Nl Nc:=fun x hx=>by
 simp only[Nc,List.mem_cons,List.not_mem_nil,or_false]at hx;rcases hx with rfl|rfl|rfl|rfl;·exact Fb
 ·exact Fb
 ·show Few3 (BG 2 1);rw[Qy];exact Q5 (by decide) (by decide)
 exact Fb
theorem Vx:Nl Nh:=fun x hx=>by simp only[Nh,List.mem_singleton]at hx;subst hx;exact Q5 (by decide) (by decide)
theorem Vy:zJ Nc Qr=⟨4,1⟩:=by simp only[zJ,Nc,Qr,jf,rG,aW,Qy,Lm];rfl
theorem Vz:zJ Nh []=⟨1,2⟩:=by simp only[zJ,Nh,jf,rG,aW,Lm];rfl
theorem wo:oC Nh [] 0=191/\oC Qs [] 5=190/\oC Qs [iG] 5=100/\fC [] 5=190:=by
 have h1:=Ey;have h2:=QL;have h3:dF iG=false:=by decide+kernel
 refine⟨?_,?_,?_,by decide⟩;·have e:((Nh.length:Nat):Int)=1:=rfl;simp[oC,h1,e]
 ·simp[oC,h2.2]
 simp[oC,h2.1,h3]
theorem abo:jq EJ smC++ [eP 0 1,eP 0 1]=Qr:=by rw[GK];rfl
theorem VA:nodes Sj<=900:=by simp[Sj,smA,VR,Y2,nodes,dh]
section
open Go.RowKit
def St(W:World)(P:World->Prop):Prop:=∀V,Below W.heap.size W V->P V
section
variable {W V:World}{P Q:World→Prop}
theorem St.go(h:St W P)(hb:Below W.heap.size W V):St V P:=fun U hU=>h U (hb.trans (hU.mono hb.size))
theorem St.add(h:St W P)(q:∀V,Below W.heap.size W V->Q V):St W (fun V=>Q V/\P V):=fun V hV=>⟨q V hV,h V hV⟩
theorem St.at_(h:St W P):P W:=h W (Below.refl _ _)
theorem St.map(h:St W P)(q:∀V,P V->Q V):St W Q:=fun V hV=>q V (h V hV)
theorem St.drew(h:St W P):P W.drew:=h _ (Below.refl _ _).drew
end
attribute [irreducible] St
def qB{α:Type} [Rep α] (w:World)(M:List Nat):List α->List (List Value)->Prop
 | [], []=>True
 |x::xs,c::cs=>Rep.rd w M x c/\qB w M xs cs
 |_,_=>False
theorem qB.at_{α:Type} [Rep α] {w:World}{M:List Nat}:∀{xs:List α}{cs:List (List Value)}{k:Nat}{x:α},qB w M xs cs->xs[k]?=some x->∃es,Rep.rd w M x es/\∀(j:Nat) (u:Value),es[j]?=some u->cs.flatten[k*Rep.sz α+j]?=some u
 |y::xs,c::cs,0,x,h,hk=>by cases hk;exact⟨c,h.1,fun j u hu=>by rw[Nat.zero_mul,Nat.zero_add,List.flatten_cons,List.getElem?_append_left (List.getElem?_eq_some_iff.1 hu).1];exact hu⟩
 |y::xs,c::cs,k+1,x,h,hk=>by obtain⟨es,h1,h2⟩:=qB.at_ (k:=k) h.2 (by simpa using hk);refine⟨es,h1,fun j u hu=>?_⟩;have hl:=Rep.len h.1;rw[List.flatten_cons,List.getElem?_append_right (by rw[hl,Nat.add_mul];omega),hl,show(k+1)*Rep.sz α+j-Rep.sz α=k*Rep.sz α+j by rw[Nat.add_mul];omega];exact h2 j u hu
theorem pG{α:Type} [Rep α] {w:World}{M:List Nat}(hM:b_ M w)(e:TypeId)(xs:List α)(h:qB w M xs cs)(hn:xs.length<=1000):Sl α (w.alloc (.cells cs.flatten.toArray e)) M (some ⟨w.heap.size,0,none⟩) xs.length xs.length xs:=lN hM e xs hn fun k x hk=>h.at_ hk
open Go.Shelf
attribute [local go_sem] Oper.semAt_some
abbrev PU:dK:=⟨none,0,0⟩
theorem A_{M:List Nat}{c:Nat}{w:World}(hM:b_ M w):
 Calls Tryz.prog 38 #[.slice A n c,.slice none 0 0] w fun e w'=>∃u,e=.returned u/\QW w' M u (eP 0 1)/\Below w.heap.size w w':=by
 refine wid ?_;obtain⟨W1,hW1,F1⟩:=nam ((Fr.nil w).a4 w.heap.size 30);have o1:=opc F1;have F:=Hd F1;have HB:=Hd ((hM.le F1.bl.size).cons (F1.mJ 0):b_ (w.heap.size::M) W1);clear F1 hM;refine ent Tryz.func38 rfl Tryz.ntmps38 ?_;gi_wp2;gi_loopw[5,12] (fun s i wr=>s=.int .i64 0/\i=.int .i64 0/\W1=wr) (fun _ i _=>0);case atStart=>exact⟨rfl,rfl,rfl⟩
 case round=>
  obtain⟨rfl,rfl,rfl⟩:=hrel
  gi_wp2_with (first
   |(refine Cl 66 (uP (M:=w.heap.size::M) (n:=0) (d:=1) HB.out (by unfold i64;omega) (by unfold i64;omega) (by omega)) ?_;rintro e w2 ⟨u,rfl,z2,hb2⟩;obtain⟨p2,q2,A2,n2,c2,B2,m2,d2,rfl,qc⟩:=QC.of z2;obtain⟨W5,CZ,hb5,F5⟩:=fP (w:=w2) ((F.out.go hb2).a w2.heap.size [.bool p2,.slice A2 n2 c2,.bool q2,.slice B2 m2 d2] 30);have o2:=opc F5;have G:=Hd2 F5 (qc.go hb5);clear z2 F5 qc hb2 hb5)
   |fail)
  obtain⟨wF,hwF,t0,t1,t2,t3,hQ,bF⟩:=nN (M:=M) (G.out.1.aQ 0 0) (G.out.1.aQ 0 1) (G.out.1.aQ 0 2) (G.out.1.aQ 0 3) (x:=_) G.out.2.num.sl G.out.2.den.sl G.out.2.num.neg G.out.2.den.neg G.out.1.bl (Nat.le_refl _);exact aer
theorem uV{w:World}{M:List Nat}{r:Rt}{p:Bool}{c d:Nat}(h:QC w M r p q A n c B m d):Rep.rd w M (jd r) [.bool p,.slice A n c,.bool q,.slice B m d]:=by obtain⟨⟨rfl,h1⟩,⟨rfl,h2⟩⟩:=h;exact JB (x:=jd r) h1 h2
section
variable {M:List Nat}{r:aS}{s1 s2 s3 s4 s5 s6 s7:dK}{c:dS}{t1:dK}{i:Nat}{w:World}
theorem Fj(hr:dG w M r s1 s2 s3 s4 s5 s6 s7)(hc:jE w M c t1 PU PU PU)(hg:f_ r i c)(hm:eY c.marks=0)(hl:c.marks.length<=70)(hll:∀l,l∈c.marks->l.length<=20)(h0:0<(jq r c).length)(ht:Tab w)(hM:b_ M w):
 Calls Tryz.prog 19 #[.agg (aV r s1 s2 s3 s4 s5 s6 s7).toArray,.int .i64 i,.agg (dI t1 PU PU PU).toArray] w fun e w'=>∃A n d,e=.returned (.tuple #[.slice A n d,.int .i64 0])/\Sl RatR w' M A n d ((jq r c++ [eP 0 1,eP 0 1]).map jd)/\Below w.heap.size w w':=by
 refine wid ?_;have hlt:(jq r c).length<=70:=by unfold jq;rw[List.length_map,List.length_zip];omega
 obtain⟨ls,hls⟩:=aC (jq r c);rw[hls]at hlt h0 |-;obtain⟨W1,hW1,F1⟩:=nam (((Fr.nil w).a w.heap.size (aV r s1 s2 s3 s4 s5 s6 s7) 52).a (w.heap.size+1) (dI t1 PU PU PU) 59);have o1:=opc F1;have X:=Iu (hr.go F1.bl) (hc.go F1.bl) hg hm hl hll (tab_below ht F1.bl) (hM.le F1.bl.size);rw[hls]at X;have HX:=Hd X;have F:=Hd F1;have H:=fB hM h0 hlt;clear X F1 hr hc hg hm hl hll ht hM h0 hlt hls;refine ent Tryz.func19 rfl Tryz.ntmps19 ?_
 gi_wp2_with (first
  |(refine Cl 37 HX.out ?_;rintro e w2 ⟨A2,n2,c2,rfl,hs2,hb2⟩;have F2:=F.out.go hb2;have o2:=opc F2;have v0:=ah (F2.aQ 0 2);have v1:=ah (F2.aQ 0 3);have v2:=ah (F2.aQ 1 1);have v3:=ah (F2.aQ 1 2);have sl:=EC (n:=n2) Tryz.underlying23 (sz:=4) (fun w=>by kernel_rfl) A2 hs2.cap;have hM2:=(H.out.1.le F2.bl.size);have ab9:=hs2.small;have hn2:n2=ls.length:=by rw[<-hs2.len,List.length_map]
    have G:=Hd5 F2 hs2 hM2 hn2 hs2.cap;clear F2 hs2 hb2 hM2 hn2)
  |fail)
 refine aP [] 18 (by kernel_rfl) (by kernel_rfl) ?_;refine ay 0 ?_;refine ay 1 ?_;refine ay 2 ?_;refine ay 3 ?_;refine ay 4 ?_;refine ay 5 ?_;refine ay 6 ?_;refine ay 7 ?_;refine ay 8 ?_;refine ay 9 ?_;refine ay 11 ?_;refine ay 12 ?_;refine ay 13 ?_;refine ay 14 ?_;refine eU 10 fun K hK=>?_;gi_wp2;refine Cl 38 (A_ (M:=M) (G.out.2.2.1.le (Nat.le_refl _))) ?_;rintro e w3 ⟨u3,rfl,z3,hb3⟩;obtain⟨p3,q3,A3,n3,c3,B3,m3,d3,rfl,qc3⟩:=QC.of z3;have G3:=Hd2 qc3 hb3;refine hK _ _ ⟨?_,?_⟩;clear hK K;·exact Keeps.of_below hb3 _
 clear z3 qc3 hb3;refine lit ?_;refine eU 15 fun K hK=>?_;gi_wp2;refine Cl 38 (A_ (M:=M) (G.out.2.2.1.le G3.out.2.size)) ?_;rintro e w4 ⟨u4,rfl,z4,hb4⟩;obtain⟨p4,q4,A4,n4,c4,B4,m4,d4,rfl,qc4⟩:=QC.of z4;have G4:=fB (G3.out.1.go hb4) qc4 (G3.out.2.trans (hb4.mono G3.out.2.size));refine hK _ _ ⟨?_,?_⟩;clear hK K;·exact Keeps.of_below hb4 _
 clear z4 qc4 hb4;refine lit ?_;have VJ:b_ M w4:=G.out.2.2.1.le G4.out.2.2.size;obtain⟨W5,CZ⟩:=aC (w4.alloc (.cells #[.bool p3,.slice A3 n3 c3,.bool q3,.slice B3 m3 d3,.bool p4,.slice A4 n4 c4,.bool q4,.slice B4 m4 d4] 30));have hb5:Below w4.heap.size w4 W5:=by rw[<-CZ];exact bel
 have hy:Sl RatR W5 M (some ⟨w4.heap.size,0,none⟩) 2 2 [jd (eP 0 1),jd (eP 0 1)]:=by rw[<-CZ];exact lN VJ 30 [jd (eP 0 1),jd (eP 0 1)] (by simp) (show _ from Xe (α:=RatR) (uV G4.out.1) (uV G4.out.2.1))
 have aam:Below w2.drew.heap.size w2.drew W5:=G4.out.2.2.trans (hb5.mono G4.out.2.2.size);have hsn:n2=ls.length:=G.out.2.2.2.1;obtain⟨A6,c6,W6,r1,r2,r3⟩:=Sl.abp (t:=23) ((G.out.2.1.go (Below.refl _ _).drew).go aam).abq (fun e=>by have:=H.out.2.1;omega) Tryz.underlying23 Iq (VJ.le hb5.size) hy (by omega) (by have:=H.out.2.2;omega);have F6:=(G.out.1.drew.go aam).go r3;have o6:=opc F6;have HR:=h_ r1 (Keeps.of_below r3 []) r2 F6.bl;have H0:=Hd (Rk (ty:=23) Tryz.underlying23 Iq A6 r2.cap W6);clear VJ hy aam hsn r1 r2 r3 F6;refine eU 16 fun K hK=>?_;gi_wp2;refine⟨Keeps.of_below hb5 _,?_⟩;clear hb5;refine lit ?_;refine oQ 17 [] (by kernel_rfl) (dN (by decide) rfl ?_ (fun K hK=>?_) gU);·exact wy
 refine aI _ _ _ rfl rfl rfl HR.out.1 (hK _ _ ⟨HR.out.2.1,?_⟩);clear hK K;refine lit ?_;refine iq 1 ?_;refine jW fun K hK K' hK'=>?_;gi_wp2;refine tail_nil _ ?_;simp only[cu]
 gi_wp2_with (first
  |(gi_at_builtin;refine wpListIn_plain rfl fun K hK'=>?_;refine aI _ _ _ rfl rfl rfl H0.out (hK' _ _ ?_);clear hK' K)
  |fail)
 exact⟨rfl,.tuple #[.slice A6 (n2+2) c6,.int .i64 0],by simp[results,go_sem],_,_,_,rfl,by simpa using HR.out.2.2.1,HR.out.2.2.2⟩
end
theorem Fv{M:List Nat}{n:Int}{w:World}(hM:b_ M w)(hn:i64 n)(hd:i64 d)(h0:0<d):
 Calls Tryz.prog 36 #[.int .i64 n,.int .i64 d] w (QR w M (eP n d)):=by
 refine wid ?_;obtain⟨W1,hW1,F1⟩:=nam ((Fr.nil w).a4 w.heap.size 30);have o1:=opc F1;have H:=h_ ((hM.le F1.bl.size).cons (F1.mJ 0):b_ (w.heap.size::M) W1) hn hd h0;have F:=Hd F1;clear F1 hM hn hd h0;refine ent Tryz.func36 rfl Tryz.ntmps36 ?_
 gi_wp2_with (first
  |(have g:=G3.out;clear g;have X:=GL (M:=w.heap.size::M) (n:=n) (d:=d) G3.out.2.2.2 G3.out.2.1 G3.out.2.2.1 (En H.out.2.1) (En H.out.2.2.1) H.out.2.2.2;refine Cl 68 X ?_;clear X;rintro e w4 ⟨u4,rfl,z4,hb4⟩;obtain⟨p4,q4,A4,n4,c4,B4,m4,d4,rfl,qc⟩:=QC.of z4;have FO:=G3.out.1.go hb4;have o4:=opc FO;have G4:=Hd2 FO qc;clear z4 qc hb4 FO)
  |(have g:=G2.out;clear g;have X:=zC (M:=w.heap.size::M) (n:=d) G2.out.2.2 H.out.2.2.1;refine Cl 33 X ?_;clear X;rintro e w3 ⟨u3,rfl,z3,hb3⟩;have G3:=h_ (G2.out.1.go hb3) (G2.out.2.1.go hb3) z3 (G2.out.2.2.le hb3.size);clear z3 hb3)
  |(have X:=zC (M:=w.heap.size::M) (n:=n) H.out.1 H.out.2.1;refine Cl 33 X ?_;clear X;rintro e w2 ⟨u2,rfl,z2,hb2⟩;have G2:=fB (F.out.go hb2) z2 (H.out.1.le hb2.size);clear z2 hb2)
  |fail)
 obtain⟨wF,hwF,t0,t1,t2,t3,hQ,bF⟩:=nN (M:=M) (G4.out.1.aQ 0 0) (G4.out.1.aQ 0 1) (G4.out.1.aQ 0 2) (G4.out.1.aQ 0 3) (x:=_) G4.out.2.num.sl G4.out.2.den.sl G4.out.2.num.neg G4.out.2.den.neg G4.out.1.bl (Nat.le_refl _);try rw[hwF]
 exact⟨rfl,.tuple #[.agg #[.bool p4,.slice A4 n4 c4,.bool q4,.slice B4 m4 d4],.int .i64 0],by simp[results,go_sem,t0,t1,t2,t3],_,rfl,hQ,bF⟩
theorem jU{M:List Nat}{n:Int}{w:World}(hM:b_ M w)(hn:i64 n)(hd:i64 d)(h0:0<d):
 Calls Tryz.prog 18 #[.int .i64 n,.int .i64 d] w fun e w'=>∃u,e=.returned u/\QW w' M u (eP n d)/\Below w.heap.size w w':=by
 refine wid ?_;obtain⟨W1,hW1,F1⟩:=nam ((Fr.nil w).a4 w.heap.size 30);have o1:=opc F1;have X:=Hd (Fv (w:=W1) ((hM.le F1.bl.size).cons (F1.mJ 0):b_ (w.heap.size::M) W1) hn hd h0);have F:=Hd F1;clear F1 hM hn hd h0;refine ent Tryz.func18 rfl Tryz.ntmps18 ?_
 gi_wp2_with (first
  |(refine Cl 36 X.out ?_;rintro e w4 ⟨u4,rfl,z4,hb4⟩;obtain⟨p4,q4,A4,n4,c4,B4,m4,d4,rfl,qc⟩:=QC.of z4;have hb5:Below w4.heap.size w4 (w4.alloc (.cells #[.bool p4,.slice A4 n4 c4,.bool q4,.slice B4 m4 d4] 30)):=by exact bel
    obtain⟨W5,CZ,F5⟩:=nam ((F.out.go hb4).a w4.heap.size [.bool p4,.slice A4 n4 c4,.bool q4,.slice B4 m4 d4] 30);rw[CZ]at hb5;have o5:=opc F5;have G4:=Hd2 F5 (qc.go hb5);clear z4 qc hb4 F5 hb5)
  |fail)
 obtain⟨wF,hwF,t0,t1,t2,t3,hQ,bF⟩:=nN (M:=M) (G4.out.1.aQ 0 0) (G4.out.1.aQ 0 1) (G4.out.1.aQ 0 2) (G4.out.1.aQ 0 3) (x:=_) G4.out.2.num.sl G4.out.2.den.sl G4.out.2.num.neg G4.out.2.den.neg G4.out.1.bl (Nat.le_refl _);try rw[hwF]
 exact⟨rfl,.agg #[.bool p4,.slice A4 n4 c4,.bool q4,.slice B4 m4 d4],by simp[results,go_sem,t0,t1,t2,t3],_,rfl,hQ,bF⟩
end
section
namespace U
open Go.RowKit Go.Shelf
attribute [local go_sem] Oper.semAt_some
attribute [-go_sem] Instr.storeAt
abbrev z9:List Value:= [.int .i64 0,.int .i64 0,.int .i64 0,.int .i64 0,.int .i64 0,.bool false,.slice none 0 0,.bool false,.slice none 0 0]
theorem abr{W:World}{b:Nat}(R:gG W b z9 38)(op xa xb xc xd:Int)(p q:Bool)(A B:Option Addr)(n c m d:Nat):
 ∃V,(Instr.storeAt 38 (.pointer (some ⟨b,0,none⟩)) (.agg #[.int .i64 op,.int .i64 xa,.int .i64 xb,.int .i64 xc,.int .i64 xd,.bool p,.slice A n c,.bool q,.slice B m d])).run Tryz.prog W=.ok () V/\gG V b [.int .i64 op,.int .i64 xa,.int .i64 xb,.int .i64 xc,.int .i64 xd,.bool p,.slice A n c,.bool q,.slice B m d] 38/\Go.Proofs.YtefnknhjlejalaaGreatDoor.Keeps [b] W V/\∀s w,s<=b->Below s w W->Below s w V:=by
 obtain⟨V,hV⟩:=aC (W.setRow b #[.int .i64 op,.int .i64 xa,.int .i64 xb,.int .i64 xc,.int .i64 xd,.bool p,.slice A n c,.bool q,.slice B m d]);refine⟨V,?_,?_,?_,?_⟩;·rw[<-hV];show(storeVar _ _ _).run _ _=_;exact run_storeVar_row W b 38 38 z9.toArray _ R z_ rfl (by simp[Value.oneCell'])
 ·rw[<-hV];exact setRow_heap W b _ _ 38 (0,0) R
 ·rw[<-hV];exact⟨by simp[World.setRow],fun k _ hk=>by rw[setRow_other W b k _ (by simpa using hk)]⟩
 ·rw[<-hV];exact fun s w hs hb=>hb.trans ⟨rfl,rfl,rfl,by simp[World.setRow],fun k hk=>setRow_other W b k _ (by omega)⟩
set_option maxRecDepth 100000 in
set_option maxHeartbeats 8000000 in
theorem RG{M:List Nat}{c d:Nat}{w:World}(hp:Sl InsR w M A n c p)(hq:Sl InsR w N B n d p):
 CB 20 #[.slice A n c,.slice B n d] (.bool true) w:=by
 refine wid ?_;have hs:=hp.small;have H:=fB hp hq hp.len;clear hp hq;refine ent Tryz.func20 rfl Tryz.ntmps20 ?_;gi_wp2;gi_loopw[5] (fun i wr=>∃k:Nat,k<=n/\i=.int .i64 k/\Hid (Below w.heap.size w wr)) (fun i _=>n-(intOf i).toNat);case atStart=>exact⟨0,Nat.zero_le _,rfl,Hd (Below.refl _ _)⟩
 case round=>
  obtain⟨k,hk,rfl,hb⟩:=hrel;by_cases hlt:k<n
  ·obtain⟨x,hx⟩:=dW p k (by rw[H.out.2.2];exact hlt);obtain⟨op,xa,xb,xc,xd,r⟩:=x;obtain⟨b,o,A1,n1,c1,A2,n2,c2,rfl,⟨g0,g1,g2,g3,g4⟩,⟨g5,g6,g7,g8⟩,-,s1,s2⟩:=(H.out.1.go hb.out).insat hx;obtain⟨b',o',B1,m1,d1,B2,m2,d2,rfl,⟨h0,h1,h2,h3,h4⟩,⟨h5,h6,h7,h8⟩,-,t1,t2⟩:=(H.out.2.1.go hb.out).insat hx;obtain⟨p1,hp1⟩:=aC r.1.1;obtain⟨q1,hq1⟩:=aC r.2.1;rw[hp1]at g5 h5;rw[hq1]at g7 h7;have HS:=Hd2 (show RV wr M (.agg #[.bool p1,.slice A1 n1 c1,.bool q1,.slice A2 n2 c2]) r from⟨_,_,_,_,_,_,by rw[hp1,hq1],s1,s2⟩) (show RV wr N (.agg #[.bool p1,.slice B1 m1 d1,.bool q1,.slice B2 m2 d2]) r from⟨_,_,_,_,_,_,by rw[hp1,hq1],t1,t2⟩);obtain⟨sb,hsb⟩:=aC wr.heap.size;have uK:=Hd hsb;clear hsb;have v0:=bQ uK.out g0;have v1:=bQ uK.out g1;have v2:=bQ uK.out g2;have v3:=bQ uK.out g3;have v4:=bQ uK.out g4;have v5:=bQ uK.out g5;have v6:=bQ uK.out g6;have v7:=bQ uK.out g7;have v8:=bQ uK.out g8;have x0:=bQ uK.out h0;have x1:=bQ uK.out h1;have x2:=bQ uK.out h2;have x3:=bQ uK.out h3;have x4:=bQ uK.out h4;have x5:=bQ uK.out h5;have x6:=bQ uK.out h6;have x7:=bQ uK.out h7;have x8:=bQ uK.out h8;obtain⟨WA,hWA⟩:=aC (wr.drew.alloc (.cells z9.toArray 38));obtain⟨WZ,hWZ⟩:=aC (WA.alloc (.cells z9.toArray 38));have ba:Below wr.drew.heap.size wr.drew WA:=by rw[<-hWA];exact bel
   have bz:Below WA.heap.size WA WZ:=by rw[<-hWZ];exact bel
   have za:WA.heap.size=wr.heap.size+1:=by rw[<-hWA];simp
   have ra:gG WZ wr.heap.size z9 38:=gG.go (show gG WA wr.heap.size z9 38 by rw[<-hWA];exact heap_alloc_new wr.drew _) bz (by omega);have rz:gG WZ (wr.heap.size+1) z9 38:=by rw[<-za,<-hWZ];exact heap_alloc_new WA _
   have HA:=h_ ba bz ra rz;clear hx s1 s2 t1 t2 hp1 hq1 g0 g1 g2 g3 g4 g5 g6 g7 g8 h0 h1 h2 h3 h4 h5 h6 h7 h8 ba bz ra rz;gi_wp2;refine aP sb 11 (by kernel_rfl) (by kernel_rfl) ?_;refine ay 0 ?_;refine ay 1 ?_;refine ay 2 ?_;refine ay 3 ?_;refine ay 4 ?_;refine ay 5 ?_;refine ay 6 ?_;refine ay 7 ?_;refine oQ 8 [9] (by kernel_rfl) (dN (by decide) rfl ?_ (fun K hK=>?_) (dN (by decide) rfl ?_ (fun K hK=>?_) gU));·exact wy
   rotate_left;·exact wy
   rotate_left;case' _=>
    gi_wp2;refine⟨Keeps.of_below HA.out.1 _,?_⟩;refine lit ?_;refine eU 9 fun K hK=>?_;gi_wp2;refine⟨Keeps.of_below HA.out.2.1 _,?_⟩;refine lit ?_;obtain⟨y6,h6⟩:=aC wr.heap.size;obtain⟨y7,h7⟩:=aC (wr.heap.size+1);try rw[za]
    try rw[h7]
    try rw[h6]
    have HY:=Hd5 (h6▸HA.out.2.2.1) (h7▸HA.out.2.2.2) (show sb<=y6 by have:=uK.out;omega) (show sb<=y7 by have:=uK.out;omega) (show y6≠y7 by omega);clear h6 h7
   rotate_left;case' _=>
    gi_wp2;refine⟨Keeps.of_below HA.out.1 _,?_⟩;refine lit ?_;refine eU 8 fun K hK=>?_;gi_wp2;refine⟨Keeps.of_below HA.out.2.1 _,?_⟩;refine lit ?_;obtain⟨y7,h7⟩:=aC wr.heap.size;obtain⟨y6,h6⟩:=aC (wr.heap.size+1);try rw[za]
    try rw[h6]
    try rw[h7]
    have HY:=Hd5 (h6▸HA.out.2.2.2) (h7▸HA.out.2.2.1) (show sb<=y6 by have:=uK.out;omega) (show sb<=y7 by have:=uK.out;omega) (show y6≠y7 by omega);clear h6 h7
   all_goals
    obtain⟨W6,t6,R6,k6,B6⟩:=abr HY.out.1 op xa xb xc xd p1 q1 A1 A2 n1 c1 n2 c2;obtain⟨W7,t7,R7,k7,B7⟩:=abr (HY.out.2.1.keep k6 (by simpa using HY.out.2.2.2.2.symm)) op xa xb xc xd p1 q1 B1 B2 m1 d1 m2 d2;have TK:=R6.keep k7 (by simpa using HY.out.2.2.2.2);have e0:=TK.cell (k:=0) rfl;have e1:=TK.cell (k:=1) rfl;have e2:=TK.cell (k:=2) rfl;have e3:=TK.cell (k:=3) rfl;have e4:=TK.cell (k:=4) rfl;have e5:=TK.cell (k:=5) rfl;have e6:=TK.cell (k:=6) rfl;have e7:=TK.cell (k:=7) rfl;have e8:=TK.cell (k:=8) rfl;have f0:=R7.cell (k:=0) rfl;have f1:=R7.cell (k:=1) rfl;have f2:=R7.cell (k:=2) rfl;have f3:=R7.cell (k:=3) rfl;have f4:=R7.cell (k:=4) rfl;have f5:=R7.cell (k:=5) rfl;have f6:=R7.cell (k:=6) rfl;have f7:=R7.cell (k:=7) rfl;have f8:=R7.cell (k:=8) rfl;have hW:Below wr.heap.size wr W7:=B7 _ _ (uK.out▸HY.out.2.2.2.1) (B6 _ _ (uK.out▸HY.out.2.2.1) (((Below.refl _ _).drew.trans HA.out.1).trans (HA.out.2.1.mono HA.out.1.size)));have HW:=Hd2 (Keeps.sU k6 HY.out.2.2.1) hW;clear R6 k6 B6 R7 k7 B7 TK hW v0 v1 v2 v3 v4 v5 v6 v7 v8 x0 x1 x2 x3 x4 x5 x6 x7 x8;refine eU 10 fun K hK=>?_;gi_wp2;refine⟨HW.out.1,?_⟩;refine lit ?_;refine iq 1 ?_;refine jW fun K hK K' hK'=>?_;gi_wp2;refine tail_nil _ ?_;simp only[cu];gi_wp2;refine Cl 13 (mg (HS.out.1.go HW.out.2) (HS.out.2.go HW.out.2)) ?_;rintro e w9 ⟨rfl,Ns⟩;rw[decide_eq_true rfl];have HB:=Hd (hb.out.trans ((HW.out.2.trans (Ns.mono HW.out.2.size)).mono hb.out.size));clear Ns;gi_wp2;exact⟨⟨k+1,by omega,by go_num,HB⟩,by simp[intOf];omega⟩
  ·obtain rfl:k=n:=by omega
   gi_wp2;go_ret;exact⟨rfl,hb.out⟩
theorem ML{M:List Nat}{c d:Nat}{w:World}(hp:Sl RatR w M A n c l)(hq:Sl RatR w N B n d l):
 CB 21 #[.slice A n c,.slice B n d] (.bool true) w:=by
 refine wid ?_;have hs:=hp.small;have H:=fB hp hq hp.len;clear hp hq;refine ent Tryz.func21 rfl Tryz.ntmps21 ?_;gi_wp2;gi_loopw[5] (fun i wr=>∃k:Nat,k<=n/\i=.int .i64 k/\Hid (Below w.heap.size w wr)) (fun i _=>n-(intOf i).toNat);case atStart=>exact⟨0,Nat.zero_le _,rfl,Hd (Below.refl _ _)⟩
 case round=>
  obtain⟨k,hk,rfl,hb⟩:=hrel;by_cases hlt:k<n
  ·obtain⟨x,hx⟩:=dW l k (by rw[H.out.2.2];exact hlt);obtain⟨b,o,A1,n1,c1,A2,n2,c2,rfl,g0,g1,g2,g3,s1,s2⟩:=(H.out.1.go hb.out).ratat hx;obtain⟨b',o',B1,m1,d1,B2,m2,d2,rfl,h0,h1,h2,h3,t1,t2⟩:=(H.out.2.1.go hb.out).ratat hx;obtain⟨p1,hp1⟩:=aC x.1.1;obtain⟨q1,hq1⟩:=aC x.2.1;rw[hp1]at g0 h0;rw[hq1]at g2 h2;have HS:=Hd2 (show RV wr M (.agg #[.bool p1,.slice A1 n1 c1,.bool q1,.slice A2 n2 c2]) x from⟨_,_,_,_,_,_,by rw[hp1,hq1],s1,s2⟩) (show RV wr N (.agg #[.bool p1,.slice B1 m1 d1,.bool q1,.slice B2 m2 d2]) x from⟨_,_,_,_,_,_,by rw[hp1,hq1],t1,t2⟩);have v0:=ah g0;have v1:=ah g1;have v2:=ah g2;have v3:=ah g3;have x0:=ah h0;have x1:=ah h1;have x2:=ah h2;have x3:=ah h3;clear hx s1 s2 t1 t2 hp1 hq1 g0 g1 g2 g3 h0 h1 h2 h3;gi_wp2;refine Go.Proofs.YtefnknhjlejalaaGreatDoor.aP [] 10 (by kernel_rfl) (by kernel_rfl) ?_;refine sD 0 ?_;refine sD 1 ?_;refine sD 2 ?_;refine sD 3 ?_;refine sD 4 ?_;refine sD 5 ?_;refine sD 6 ?_;refine sD 7 ?_;refine aaA 8 fun K hK=>?_;gi_wp2;refine Cl 13 (mg (HS.out.1.go (Below.refl _ _).drew) (HS.out.2.go (Below.refl _ _).drew)) ?_;rintro e w9 ⟨rfl,Ns⟩;rw[decide_eq_true rfl];have HB:=Hd (hb.out.trans (((Below.refl _ _).drew.trans Ns).mono hb.out.size));refine hK _ _ ⟨?_,?_⟩;clear hK K;·exact Go.Proofs.YtefnknhjlejalaaGreatDoor.Keeps.of_below Ns _
   clear Ns;refine lit ?_;refine sD 9 ?_;refine aaB 0 ?_;refine tail_nil _ ?_;simp only[cu];gi_wp2;exact⟨⟨k+1,by omega,by go_num,HB⟩,by simp[intOf];omega⟩
  ·obtain rfl:k=n:=by omega
   gi_wp2;go_ret;exact⟨rfl,hb.out⟩
end U
end
section
open Go.RowKit Go.Shelf
attribute [local go_sem] Oper.semAt_some
theorem aan:∀y,y∈iZ Sj->Rl y:=by
 rw[ET];intro y hy;simp only[List.mem_cons,List.not_mem_nil,or_false]at hy;rcases hy with rfl|rfl|rfl|rfl;·exact⟨by decide,.inr (.inl rfl)⟩
 ·exact⟨by decide,.inl rfl⟩
 ·exact⟨by decide,.inr (.inr rfl)⟩
 exact⟨by decide,.inl rfl⟩
theorem qB.nil{α:Type} [Rep α] {w:World}{M:List Nat}:qB (α:=α) w M [] []:=trivial
theorem qB.cons{α:Type} [Rep α] {w:World}{M:List Nat}{x:α}{xs:List α}{c:List Value}(h:Rep.rd w M x c)(t:qB w M xs cs):qB w M (x::xs) (c::cs):=⟨h,t⟩
theorem i5{c e:Int}(h:(((-9223372036854775808<=a/\a<=9223372036854775807)/\ -9223372036854775808<=b/\b<=9223372036854775807)/\(-9223372036854775808<=c/\c<=9223372036854775807)/\ -9223372036854775808<=d/\d<=9223372036854775807)/\ -9223372036854775808<=e/\e<=9223372036854775807:=by decide):i64 a/\i64 b/\i64 c/\i64 d/\i64 e:=⟨h.1.1.1,h.1.1.2,h.1.2.1,h.1.2.2,h.2⟩
theorem RH{w:World}{M:List Nat}{c:Int}{r:Rt}{p:Bool}{k l:Nat}(h:QC w M r p q A n k B m l)(hi:i64 op/\i64 a/\i64 b/\i64 c/\i64 d):Rep.rd w M ((op,a,b,c,d,jd r):InsR) [.int .i64 op,.int .i64 a,.int .i64 b,.int .i64 c,.int .i64 d,.bool p,.slice A n k,.bool q,.slice B m l]:=by obtain⟨⟨rfl,h1⟩,⟨rfl,h2⟩⟩:=h;exact zM (r:=jd r) hi h1 h2
theorem EH{w:World}{M:List Nat}{c:Int}(hi:i64 op/\i64 a/\i64 b/\i64 c/\i64 d):Rep.rd w M ((op,a,b,c,d,iG):InsR) [.int .i64 op,.int .i64 a,.int .i64 b,.int .i64 c,.int .i64 d,.bool false,.slice none 0 0,.bool false,.slice none 0 0]:=zM (r:=iG) hi Sl.nil0 Sl.nil0
set_option maxRecDepth 100000 in
set_option maxHeartbeats 8000000 in
theorem FH{w:World}(ht:Tab w):CB 7 #[] (.bool true) w:=by
 refine wid ?_;have J:=Hd (show St w (fun V=>Tab V/\Below w.heap.size w V) by unfold St;exact fun V h=>⟨tab_below ht h,h⟩);clear ht;refine ent Tryz.func7 rfl Tryz.ntmps7 ?_;gi_wp2;refine Cl 17 (tZ _) ?_;intro e w2 hw;unfold SmP at hw;obtain⟨s1,s5,rfl,r2,hb⟩:=hw;replace J:=Hd (J.out.go hb);have R2:=Hd r2;clear hb r2;gi_wp2;refine Cl 16 (U.Fh (i:=0) R2.out zT (x:=Nb) rfl rfl aan VA J.out.at_.1 (b_.nil _)) ?_;rintro e w3 ⟨P,n3,c3,rfl,sp,hb⟩;replace sp:Sl InsR w3 [] P n3 c3 Nc:=sp;obtain rfl:n3=4:=sp.len.symm;replace J:=Hd ((J.out.go hb).add (fun V hV=>sp.go hV));clear hb sp;gi_wp2;refine Cl 18 (jU (M:= []) (n:=3) (d:=1) (b_.nil _) j1 j1 (by decide)) ?_;rintro e w4 ⟨u4,rfl,z4,hb⟩;obtain⟨p4,q4,A4,n4,c4,B4,m4,d4,rfl,qc⟩:=QC.of z4;replace J:=Hd ((J.out.go hb).add (fun V hV=>qc.go hV));clear hb z4 qc;gi_wp2;refine Cl 18 (jU (M:= []) (n:=1) (d:=2) (b_.nil _) j1 j1 (by decide)) ?_;rintro e w5 ⟨u5,rfl,z5,hb⟩;obtain⟨p5,q5,A5,n5,c5,B5,m5,d5,rfl,qc⟩:=QC.of z5;replace J:=Hd ((J.out.go hb).add (fun V hV=>qc.go hV));clear hb z5 qc;gi_wp2;refine Cl 18 (jU (M:= []) (n:=0) (d:=1) (b_.nil _) j1 j1 (by decide)) ?_;rintro e w6 ⟨u6,rfl,z6,hb⟩;obtain⟨p6,q6,A6,n6,c6,B6,m6,d6,rfl,qc⟩:=QC.of z6;replace J:=Hd ((J.out.go hb).add (fun V hV=>qc.go hV));clear hb z6 qc;gi_wp2;refine Cl 18 (jU (M:= []) (n:=0) (d:=1) (b_.nil _) j1 j1 (by decide)) ?_;rintro e w7 ⟨u7,rfl,z7,hb⟩;obtain⟨p7,q7,A7,n7,c7,B7,m7,d7,rfl,qc⟩:=QC.of z7;replace J:=Hd ((J.out.go hb).add (fun V hV=>qc.go hV));clear hb z7 qc;gi_wp2;obtain⟨W8,Vt⟩:=aC (w7.alloc (.cells #[.bool p4,.slice A4 n4 c4,.bool q4,.slice B4 m4 d4,.bool p5,.slice A5 n5 c5,.bool q5,.slice B5 m5 d5,.bool p6,.slice A6 n6 c6,.bool q6,.slice B6 m6 d6,.bool p7,.slice A7 n7 c7,.bool q7,.slice B7 m7 d7] 30));rw[Vt];have hb:Below w7.heap.size w7 W8:=by rw[<-Vt];exact bel
 have si:Sl RatR W8 [] (some ⟨w7.heap.size,0,none⟩) 4 4 (Qr.map jd):=by have k:=J.out.at_;rw[<-Vt];exact ad9
 have X:=U.Aq (M:= []) (p:=Nc) (ins:=Qr) (fuel:=9) ⟨b_.nil _,(J.out.go hb).at_.2.2.2.2.1,si,QJ,Vw,by decide,QM⟩ (by decide) j1;replace J:=Hd (St.add (J.out.go hb) (fun V hV=>(J.out.go hb).go hV |>.at_.2.2.2.2.1));clear hb si;refine Cl 9 X ?_;clear X;rintro e w9 ⟨u9,rfl,z9,hb⟩;rw[Vy]at z9;obtain⟨p9,q9,A9,n9,c9,B9,m9,d9,rfl,qc⟩:=QC.of z9;obtain⟨Nj,aal,hb2,F⟩:=fP (w:=w9) ((Fr.nil w9).a w9.heap.size [.bool p9,.slice A9 n9 c9,.bool q9,.slice B9 m9 d9] 30);replace J:=Hd (((J.out.go hb).go hb2).add (fun V hV=>And.intro (F.go hV) ((qc.go hb2).go hV)));clear hb hb2 F qc z9;gi_wp2;replace J:=Hd (J.out.map (Q:=fun V=>(Fr w9 V ([]++ [(w9.heap.size, [.bool p9,.slice A9 n9 c9,.bool q9,.slice B9 m9 d9])])/\QC V [] ⟨4,1⟩ p9 q9 A9 n9 c9 B9 m9 d9)/\Sl InsR V [] P 4 c3 Nc/\Tab V/\Below w.heap.size w V) fun V k=>⟨k.1,k.2.1,k.2.2.2.2.2.2.2⟩);refine Cl 18 (jU (M:= []) (n:=1) (d:=2) (b_.nil _) j1 j1 (by decide)) ?_;rintro e w11 ⟨u11,rfl,z11,hb⟩;obtain⟨p11,q11,A11,n11,c11,B11,m11,d11,rfl,qc⟩:=QC.of z11;replace J:=Hd ((J.out.go hb).add (fun V hV=>qc.go hV));clear hb z11 qc;gi_wp2;obtain⟨XW,aao⟩:=aC (w11.alloc (.cells #[.int .i64 1,.int .i64 0,.int .i64 0,.int .i64 0,.int .i64 0,.bool p11,.slice A11 n11 c11,.bool q11,.slice B11 m11 d11] 38));rw[aao];have hb:Below w11.heap.size w11 XW:=by rw[<-aao];exact bel
 have sh:Sl InsR XW [] (some ⟨w11.heap.size,0,none⟩) 1 1 Nh:=by have k:=J.out.at_;rw[<-aao];exact pG (cs:= [[_,_,_,_,_,_,_,_,_]]) (b_.nil _) 38 Nh (qB.cons (RH k.1 i5) qB.nil) (by decide)
 replace J:=Hd (((J.out.go hb).map fun V k=>k.2).add (fun V hV=>sh.go hV));have X:=U.Aq (M:= []) (p:=Nh) (ins:= []) (fuel:=1) ⟨b_.nil _,sh,Sl.nil0,Ey,Vx,by decide,sV (by decide) (fun x hx=>by cases hx)⟩ (by decide) j1;clear hb sh;refine Cl 9 X ?_;clear X;rintro e w13 ⟨u13,rfl,z13,hb⟩;rw[Vz]at z13;obtain⟨p13,q13,A13,n13,c13,B13,m13,d13,rfl,qc⟩:=QC.of z13;obtain⟨W14,acR,hb2,F⟩:=fP (w:=w13) ((Fr.nil w13).a w13.heap.size [.bool p13,.slice A13 n13 c13,.bool q13,.slice B13 m13 d13] 30);replace J:=Hd (((J.out.go hb).go hb2).add (fun V hV=>And.intro (F.go hV) ((qc.go hb2).go hV)));clear hb hb2 F qc z13;gi_wp2;have X:=xZ (M:= []) (p:=Nh) (l:= []) (fuel:=0) (b_.nil _) J.out.at_.2.1 Sl.nil0 (by rw[wo.1];decide);rw[wo.1]at X;refine Cl 9 X ?_;clear X;rintro e w15 ⟨rfl,hb⟩;obtain⟨W16,aaJ,hb2,F⟩:=fP (w:=w15) ((Fr.nil w15).a4 w15.heap.size 30);have oz:=opc F;have e0:=aN (F.aQ 0 0);have e1:=aN (F.aQ 0 1);have e2:=aN (F.aQ 0 2);have e3:=aN (F.aQ 0 3);replace J:=Hd ((J.out.go hb).go hb2);clear hb hb2 F;gi_wp2;obtain⟨W17,aap⟩:=aC (W16.alloc (.cells #[.int .i64 2,.int .i64 0,.int .i64 0,.int .i64 0,.int .i64 0,.bool false,.slice none 0 0,.bool false,.slice none 0 0] 38));rw[aap];have hb:Below W16.heap.size W16 W17:=by rw[<-aap];exact bel
 have sh:Sl InsR W17 [] (some ⟨W16.heap.size,0,none⟩) 1 1 Qs:=by rw[<-aap];exact ae7
 replace J:=Hd (J.out.go hb);have X:=xZ (M:= []) (p:=Qs) (l:= []) (fuel:=5) (b_.nil _) sh Sl.nil0 (by rw[wo.2.1];decide);rw[wo.2.1]at X;clear hb sh;refine Cl 9 X ?_;clear X;rintro e w18 ⟨rfl,hb⟩;obtain⟨W19,acS,hb2,F⟩:=fP (w:=w18) ((Fr.nil w18).a4 w18.heap.size 30);have oz:=opc F;have e0:=aN (F.aQ 0 0);have e1:=aN (F.aQ 0 1);have e2:=aN (F.aQ 0 2);have e3:=aN (F.aQ 0 3);replace J:=Hd ((J.out.go hb).go hb2);clear hb hb2 F;gi_wp2;obtain⟨W20,VF⟩:=aC (W19.alloc (.cells #[.int .i64 2,.int .i64 0,.int .i64 0,.int .i64 0,.int .i64 0,.bool false,.slice none 0 0,.bool false,.slice none 0 0] 38));rw[VF];have hb:Below W19.heap.size W19 W20:=by rw[<-VF];exact bel
 have sh:Sl InsR W20 [] (some ⟨W19.heap.size,0,none⟩) 1 1 Qs:=by rw[<-VF];exact ae7
 replace J:=Hd (J.out.go hb);have sz:W20.heap.size=W19.heap.size+1:=by rw[<-VF];simp
 clear hb;obtain⟨W21,aaq⟩:=aC (W20.alloc (.cells #[.bool false,.slice none 0 0,.bool false,.slice none 0 0] 30));rw[aaq];have hb:Below W20.heap.size W20 W21:=by rw[<-aaq];exact bel
 have si:Sl RatR W21 [] (some ⟨W20.heap.size,0,none⟩) 1 1 [iG]:=by rw[<-aaq];exact pG (cs:= [[_,_,_,_]]) (b_.nil _) 30 [iG] (qB.cons (JB (x:=iG) Sl.nil0 Sl.nil0) qB.nil) (by decide)
 rw[sz]at si;have X:=xZ (M:= []) (p:=Qs) (l:= [iG]) (fuel:=5) (b_.nil _) (sh.go hb) si (by rw[wo.2.2.1];decide);rw[wo.2.2.1]at X;replace J:=Hd (J.out.go hb);clear hb sh si;refine Cl 9 X ?_;clear X;rintro e w22 ⟨rfl,hb⟩;obtain⟨W23,acT,hb2,F⟩:=fP (w:=w22) ((Fr.nil w22).a4 w22.heap.size 30);have oz:=opc F;have e0:=aN (F.aQ 0 0);have e1:=aN (F.aQ 0 1);have e2:=aN (F.aQ 0 2);have e3:=aN (F.aQ 0 3);replace J:=Hd ((J.out.go hb).go hb2);clear hb hb2 F;gi_wp2;refine Cl 17 (tZ _) ?_;intro e RS hw;unfold SmP at hw;obtain⟨t1,t5,rfl,r24,hb⟩:=hw;replace J:=Hd (J.out.go hb);have R24:=Hd r24;clear hb r24;gi_wp2;obtain⟨W25,VG⟩:=aC (RS.alloc (.cells #[.int .i64 1,.int .i64 2] 3));rw[VG];have b25:Below RS.heap.size RS W25:=by rw[<-VG];exact bel
 have y25:W25.heap.size=RS.heap.size+1:=by rw[<-VG];simp
 have m1:Sl Int W25 [] (some ⟨RS.heap.size,0,none⟩) 2 2 [1,2]:=by rw[<-VG];exact pG (cs:= [[.int .i64 1], [.int .i64 2]]) (b_.nil _) 3 [1,2] (qB.cons ⟨rfl,j1⟩ (qB.cons ⟨rfl,j1⟩ qB.nil)) (by decide)
 obtain⟨W26,VH⟩:=aC (W25.alloc (.cells #[.int .i64 0,.int .i64 1] 3));rw[VH];have b26:Below W25.heap.size W25 W26:=by rw[<-VH];exact bel
 have y26:W26.heap.size=RS.heap.size+1+1:=by rw[<-VH];simp[y25]
 have m2:Sl Int W26 [] (some ⟨W25.heap.size,0,none⟩) 2 2 [0,1]:=by rw[<-VH];exact pG (cs:= [[.int .i64 0], [.int .i64 1]]) (b_.nil _) 3 [0,1] (qB.cons ⟨rfl,j1⟩ (qB.cons ⟨rfl,j1⟩ qB.nil)) (by decide)
 rw[y25]at m2;obtain⟨W27,aar⟩:=aC (W26.alloc (.cells #[.slice (some ⟨RS.heap.size,0,none⟩) 2 2,.slice (some ⟨RS.heap.size+1,0,none⟩) 2 2] 26));rw[aar];have b27:Below W26.heap.size W26 W27:=by rw[<-aar];exact bel
 have mm:Sl (List Int) W27 [] (some ⟨W26.heap.size,0,none⟩) 2 2 [[1,2], [0,1]]:=by rw[<-aar];exact pG (cs:= [[_], [_]]) (b_.nil _) 26 [[1,2], [0,1]] (qB.cons ⟨_,_,_,rfl,m1.go b26⟩ (qB.cons ⟨_,_,_,rfl,m2⟩ qB.nil)) (by decide)
 rw[y26]at mm;have b57:Below RS.heap.size RS W27:=(b25.trans (b26.mono b25.size)).trans (b27.mono (Nat.le_trans b25.size b26.size));replace J:=Hd (J.out.go b57);have X:=Fj (c:=smC) (t1:=⟨some ⟨RS.heap.size+1+1,0,none⟩,2,2⟩) (i:=0) (R24.out.go b57) ⟨mm,Sl.nil0,Sl.nil0,Sl.nil0⟩ OH (by decide) (by decide) (by decide) (by rw[GK];decide) J.out.at_.2.2.2.2.1 (b_.nil _);rw[abo]at X;clear b25 b26 b27 b57 m1 m2 mm;refine Cl 19 X ?_;clear X;rintro e w28 ⟨I,n28,c28,rfl,si,hb⟩;obtain rfl:n28=4:=si.len.symm;replace J:=Hd ((J.out.go hb).add (fun V hV=>si.go hV));clear hb si;gi_wp2;refine Cl 17 (tZ _) ?_;intro e w29 hw;unfold SmP at hw;obtain⟨x1,x5,rfl,r29,hb⟩:=hw;replace J:=Hd (J.out.go hb);have R29:=Hd r29;clear hb r29;gi_wp2;refine Cl 16 (U.EG (i:=1) R29.out zT (by decide) (by decide) J.out.at_.2.2.2.2.2.1 (b_.nil _)) ?_;rintro e w30 ⟨rfl,hb⟩;replace J:=Hd (J.out.go hb);clear hb;gi_wp2;have X:=qU (M:= []) none 0 0 [] 5 w30 (b_.nil _) Sl.nil0;rw[wo.2.2.2]at X;refine Cl 11 X ?_;clear X;rintro e w31 ⟨rfl,hb⟩;replace J:=Hd (J.out.go hb);clear hb;gi_wp2;refine Cl 18 (jU (M:= []) (n:=2) (d:=1) (b_.nil _) j1 j1 (by decide)) ?_;rintro e w32 ⟨u32,rfl,z32,hb⟩;obtain⟨p32,q32,A32,n32,c32,B32,m32,d32,rfl,qc⟩:=QC.of z32;replace J:=Hd ((J.out.go hb).add (fun V hV=>qc.go hV));clear hb z32 qc;gi_wp2;obtain⟨W33,aas⟩:=aC (w32.alloc (.cells #[.int .i64 2,.int .i64 0,.int .i64 0,.int .i64 0,.int .i64 0,.bool false,.slice none 0 0,.bool false,.slice none 0 0,.int .i64 2,.int .i64 1,.int .i64 0,.int .i64 0,.int .i64 0,.bool false,.slice none 0 0,.bool false,.slice none 0 0,.int .i64 5,.int .i64 1,.int .i64 0,.int .i64 0,.int .i64 0,.bool p32,.slice A32 n32 c32,.bool q32,.slice B32 m32 d32,.int .i64 3,.int .i64 0,.int .i64 2,.int .i64 0,.int .i64 0,.bool false,.slice none 0 0,.bool false,.slice none 0 0] 38));rw[aas];have hb:Below w32.heap.size w32 W33:=by rw[<-aas];exact bel
 have sw:Sl InsR W33 [] (some ⟨w32.heap.size,0,none⟩) 4 4 Nc:=by have k:=J.out.at_;rw[<-aas];exact pG (cs:= [[_,_,_,_,_,_,_,_,_], [_,_,_,_,_,_,_,_,_], [_,_,_,_,_,_,_,_,_], [_,_,_,_,_,_,_,_,_]]) (b_.nil _) 38 Nc (qB.cons (EH i5) (qB.cons (EH i5) (qB.cons (RH k.1 i5) (qB.cons (EH i5) qB.nil)))) (by decide)
 have bd:Below W33.heap.size W33 W33.drew:=(Below.refl _ _).drew;replace J:=Hd (((J.out.go hb).go bd).map (Q:=fun V=>Sl RatR V [] I 4 c28 (Qr.map jd)/\(Fr w13 V ([]++ [(w13.heap.size, [.bool p13,.slice A13 n13 c13,.bool q13,.slice B13 m13 d13])])/\QC V [] ⟨1,2⟩ p13 q13 A13 n13 c13 B13 m13 d13)/\(Fr w9 V ([]++ [(w9.heap.size, [.bool p9,.slice A9 n9 c9,.bool q9,.slice B9 m9 d9])])/\QC V [] ⟨4,1⟩ p9 q9 A9 n9 c9 B9 m9 d9)/\Sl InsR V [] P 4 c3 Nc/\Below w.heap.size w V) fun V k=>⟨k.2.1,k.2.2.1,k.2.2.2.2.1,k.2.2.2.2.2.1,k.2.2.2.2.2.2.2⟩);have X:=U.RG J.out.at_.2.2.2.1 (sw.go bd);have HX:=Hd X;clear hb bd X sw;refine aP [] 22 (by kernel_rfl) (by kernel_rfl) ?_;refine ay 0 ?_;refine ay 1 ?_;refine eU 2 fun K hK=>?_;gi_wp2;refine Cl 20 HX.out ?_;rintro e w34 ⟨rfl,hb⟩;replace J:=Hd (J.out.go hb);have v0:=stays (J.out.at_.2.2.1.1.aQ 0 0);have v1:=stays (J.out.at_.2.2.1.1.aQ 0 1);have v2:=stays (J.out.at_.2.2.1.1.aQ 0 2);have v3:=stays (J.out.at_.2.2.1.1.aQ 0 3);refine hK _ _ ⟨?_,?_⟩;clear hK K;·exact Keeps.of_below hb _
 clear hb;refine lit ?_;refine ay 3 ?_;refine ay 4 ?_;refine eU 5 fun K hK=>?_;gi_wp2;refine Cl 18 (jU (M:= []) (n:=4) (d:=1) (b_.nil _) j1 j1 (by decide)) ?_;rintro e w35 ⟨u35,rfl,z35,hb⟩;obtain⟨p35,q35,A35,n35,c35,B35,m35,d35,rfl,qc⟩:=QC.of z35;replace J:=Hd ((J.out.go hb).add (fun V hV=>qc.go hV));refine hK _ _ ⟨?_,?_⟩;clear hK K;·exact Keeps.of_below hb _
 clear hb z35 qc;refine lit ?_;refine eU 6 fun K hK=>?_;gi_wp2;refine Cl 13 (mg J.out.at_.2.2.2.1.2.qw.rv J.out.at_.1.qw.rv) ?_;rintro e w36 ⟨rfl,hb⟩;rw[show decide (jd ⟨4,1⟩=jd (eP 4 1))=true from decide_eq_true rfl];replace J:=Hd ((J.out.map fun V k=>k.2).go hb)
 skip
 refine hK _ _ ⟨?_,?_⟩;clear hK K;·exact Keeps.of_below hb _
 clear hb;refine lit ?_;have v0:=stays (J.out.at_.2.1.1.aQ 0 0);have v1:=stays (J.out.at_.2.1.1.aQ 0 1);have v2:=stays (J.out.at_.2.1.1.aQ 0 2);have v3:=stays (J.out.at_.2.1.1.aQ 0 3);refine ay 7 ?_;refine ay 8 ?_;refine ay 9 ?_;refine eU 10 fun K hK=>?_;gi_wp2;refine Cl 18 (jU (M:= []) (n:=1) (d:=2) (b_.nil _) j1 j1 (by decide)) ?_;rintro e w37 ⟨u37,rfl,z37,hb⟩;obtain⟨p37,q37,A37,n37,c37,B37,m37,d37,rfl,qc⟩:=QC.of z37;replace J:=Hd ((J.out.go hb).add (fun V hV=>qc.go hV));refine hK _ _ ⟨?_,?_⟩;clear hK K;·exact Keeps.of_below hb _
 clear hb z37 qc;refine lit ?_;refine eU 11 fun K hK=>?_;gi_wp2;refine Cl 13 (mg J.out.at_.2.2.1.2.qw.rv J.out.at_.1.qw.rv) ?_;rintro e w38 ⟨rfl,hb⟩;rw[show decide (jd ⟨1,2⟩=jd (eP 1 2))=true from decide_eq_true rfl];replace J:=Hd ((J.out.map fun V k=>k.2).go hb)
 skip
 refine hK _ _ ⟨?_,?_⟩;clear hK K;·exact Keeps.of_below hb _
 clear hb;refine lit ?_;refine ay 12 ?_;refine ay 13 ?_;refine ay 14 ?_;refine eU 15 fun K hK=>?_;gi_wp2;refine Cl 18 (jU (M:= []) (n:=3) (d:=1) (b_.nil _) j1 j1 (by decide)) ?_;rintro e w39 ⟨u39,rfl,z39,hb⟩;obtain⟨p39,q39,A39,n39,c39,B39,m39,d39,rfl,qc⟩:=QC.of z39;replace J:=Hd ((J.out.go hb).add (fun V hV=>qc.go hV));refine hK _ _ ⟨?_,?_⟩;clear hK K;·exact Keeps.of_below hb _
 clear hb z39 qc;refine lit ?_;refine eU 16 fun K hK=>?_;gi_wp2;refine Cl 18 (jU (M:= []) (n:=1) (d:=2) (b_.nil _) j1 j1 (by decide)) ?_;rintro e w40 ⟨u40,rfl,z40,hb⟩;obtain⟨p40,q40,A40,n40,c40,B40,m40,d40,rfl,qc⟩:=QC.of z40;replace J:=Hd ((J.out.go hb).add (fun V hV=>qc.go hV));refine hK _ _ ⟨?_,?_⟩;clear hK K;·exact Keeps.of_below hb _
 clear hb z40 qc;refine lit ?_;refine eU 17 fun K hK=>?_;gi_wp2;refine Cl 18 (jU (M:= []) (n:=0) (d:=1) (b_.nil _) j1 j1 (by decide)) ?_;rintro e w41 ⟨u41,rfl,z41,hb⟩;obtain⟨p41,q41,A41,n41,c41,B41,m41,d41,rfl,qc⟩:=QC.of z41;replace J:=Hd ((J.out.go hb).add (fun V hV=>qc.go hV));refine hK _ _ ⟨?_,?_⟩;clear hK K;·exact Keeps.of_below hb _
 clear hb z41 qc;refine lit ?_;refine eU 18 fun K hK=>?_;gi_wp2;refine Cl 18 (jU (M:= []) (n:=0) (d:=1) (b_.nil _) j1 j1 (by decide)) ?_;rintro e w42 ⟨u42,rfl,z42,hb⟩;obtain⟨p42,q42,A42,n42,c42,B42,m42,d42,rfl,qc⟩:=QC.of z42;replace J:=Hd ((J.out.go hb).add (fun V hV=>qc.go hV));refine hK _ _ ⟨?_,?_⟩;clear hK K;·exact Keeps.of_below hb _
 clear hb z42 qc;refine lit ?_;obtain⟨W43,abt⟩:=aC (w42.alloc (.cells #[.bool p39,.slice A39 n39 c39,.bool q39,.slice B39 m39 d39,.bool p40,.slice A40 n40 c40,.bool q40,.slice B40 m40 d40,.bool p41,.slice A41 n41 c41,.bool q41,.slice B41 m41 d41,.bool p42,.slice A42 n42 c42,.bool q42,.slice B42 m42 d42] 30));have hb:Below w42.heap.size w42 W43:=by rw[<-abt];exact bel
 have si:Sl RatR W43 [] (some ⟨w42.heap.size,0,none⟩) 4 4 (Qr.map jd):=by have k:=J.out.at_;rw[<-abt];exact ad9
 replace J:=Hd (J.out.go hb);have X:=U.ML J.out.at_.2.2.2.2.1 si;refine eU 19 fun K hK=>?_;gi_wp2;refine⟨Keeps.of_below hb _,?_⟩;clear hb si;refine lit ?_;refine eU 20 fun K hK=>?_;gi_wp2;refine Cl 21 X ?_;clear X;rintro e w44 ⟨rfl,hb⟩;replace J:=Hd (J.out.go hb);refine hK _ _ ⟨?_,?_⟩;clear hK K;·exact Keeps.of_below hb _
 clear hb;refine lit ?_;refine ay 21 ?_;refine iq 1 ?_;refine jW fun K hK K' hK'=>?_;gi_wp2;refine tail_nil _ ?_;simp only[cu];gi_wp2;go_ret;exact⟨rfl,J.out.at_.2.2.2.2.2.2.2.2⟩
end
end Go.Proofs.YtefnknhjlejalaaGreatDoor
