/- Lemmas and walks; no statement is proved here. -/
import Derived.Test.YtlcgbfkdnmdigaaGreatDoorM43
import Derived.Test.YtlcgbfkdnmdigaaGreatDoorM44
set_option linter.unusedVariables false
set_option linter.unusedSimpArgs false
set_option maxRecDepth 20000
set_option maxHeartbeats 6000000
namespace Go.Proofs.YtlcgbfkdnmdigaaGreatDoor
open Go.Proofs.Tryz
theorem ae5{p:Prop}(h:p:=by exact⟨false,false,rfl,fun _=>zI,(fun e=>by cases e),fun _=>⟨rfl,fun _=>rfl⟩⟩):p:=h
theorem iG{s:ByteArray}(h:s.size<=32):s.size<=maxLen:=Nat.le_trans h (by decide)
theorem zI:(⟨#[]⟩:ByteArray).toList= []:=by rw[ByteArray.toList,ByteArray.toList.loop];rfl
theorem JK:ZH uX where
 small:=by decide+kernel
 parts y hy:=by rw[show y=EW from List.mem_singleton.1 hy];decide+kernel
 len:=by decide
 NT t ht:=by cases ht
 z1 x hx:=by rw[show x=Y1 from List.mem_singleton.1 hx];exact iG (by decide)
 z2 x hx:=by
  rcases List.mem_cons.1 hx with rfl|hx;·exact iG (by decide)
  rw[List.mem_singleton.1 hx];exact iG (by decide)
 z3 x hx:=by cases hx
 z4 x hx:=by rw[show x=EW from List.mem_singleton.1 hx];exact iG (by decide)
 a1:=by decide+kernel
 a2:=by decide+kernel
 a3:=by decide+kernel
 a4:=by decide+kernel
 o1:=by decide+kernel
 o2:=by decide+kernel
 o3:=by decide+kernel
 o4:=by decide+kernel
 name:=by decide+kernel
 keys t ht:=by cases ht
 rounds y hy:=by rw[show y=EW from List.mem_singleton.1 hy];refine⟨?_,by decide+kernel,by rfl,iG (by decide),.inl ⟨zI,rfl⟩⟩;simp only[au,EW,O_,Xc,Xd,Xa,Xb,Y0,Ut,XU,and_true];exact⟨iG (by decide),⟨iG (by decide),⟨iG (by decide),iG (by decide)⟩,iG (by decide)⟩,iG (by decide)⟩
theorem acI:∀y,y∈iZ O_->pX y:=by
 have h:iZ O_= [O_,Xc,Xa,Y0,Xb,Xd]:=by simp[O_,Xc,Xd,Xa,Xb,Y0,iZ,Ah]
 rw[h];intro y hy;simp only[List.mem_cons,List.not_mem_nil,or_false]at hy;rcases hy with rfl|rfl|rfl|rfl|rfl|rfl;·exact ae5
 ·exact ae5
 ·exact⟨true,false,rfl,fun _=>zI,fun _=>by decide,fun e=>by cases e⟩
 ·exact⟨false,true,rfl,(fun e=>by cases e),(fun e=>by cases e),fun _=>⟨rfl,fun _=>rfl⟩⟩
 ·exact ae5
 exact ae5
theorem yJ:Sound uX:=by
 refine⟨JK,?_,⟨fun _=>0,⟨by decide,(fun t ht=>by cases ht),(fun i t ht=>by cases ht),(fun i hi=>by cases hi),(fun i hi=>by cases hi)⟩⟩,fun i x hx=>?_⟩
 ·refine{ c0:=by simp[uX],r0:=by simp[uX],aT:=fun c hc=>?_,bonus:=fun c hc=>?_,malus:=fun c hc=>?_,prizes:=trivial,points:=trivial,best:=by decide,bp:=by decide,ties:=(fun t ht=>by cases ht),rounds:=fun x hx=>?_ };·rw[show c=Y1 from List.mem_singleton.1 hc];refine⟨?_,?_,?_,?_,?_,?_,?_,?_,.inl rfl⟩<;>decide
  ·rw[List.mem_singleton.1 hc];refine⟨?_,?_,?_,?_⟩<;>decide
  ·rw[List.mem_singleton.1 hc];refine⟨?_,?_,?_,?_⟩<;>decide
  rw[show x=EW from List.mem_singleton.1 hx];refine⟨by decide,by decide,by decide,fun c hc=>?_,(fun e=>by cases e),fun _=>acI⟩;rw[show c=Y1 from List.mem_singleton.1 hc];decide
 obtain rfl:i=0:=by have:=(List.getElem?_eq_some_iff.1 hx).1;simp[uX]at this;exact this
 obtain rfl:EW=x:=Option.some.inj hx;refine⟨fun y hy e=>?_,fun h=>absurd h (by decide)⟩;have h:iZ O_= [O_,Xc,Xa,Y0,Xb,Xd]:=by simp[O_,Xc,Xd,Xa,Xb,Y0,iZ,Ah]
 have hy:y∈iZ O_:=hy;rw[h]at hy;simp only[List.mem_cons,List.not_mem_nil,or_false]at hy;rcases hy with rfl|rfl|rfl|rfl|rfl|rfl<;>exact absurd e (by decide)
theorem t_{m:Int}(h:m= -1\/m=6):f_ uX ((0:Nat):Int) (QJ m):=by refine⟨yJ,0,EW,rfl,rfl,?_⟩;rcases h with rfl|rfl<;>decide+kernel
theorem EC:AB uX 0 (QJ 11)=170/\AB uX 0 ⟨[], [], [], []⟩=170/\AB uX 1 (QJ 6)=1:=by decide+kernel
theorem Xu(m:Int):yI uX (QJ m) where
 fw:=⟨⟨⟨JK.parts,JK.len,JK.NT⟩,.inl (by decide),fun t ht=>by cases ht⟩,by decide⟩
 parts x hx:=by rw[show x=EW from List.mem_singleton.1 hx];decide+kernel
 lens:=by simp[QJ]
 mark l hl:=by rw[List.mem_singleton.1 hl];simp
 prev q hq:=by cases hq
theorem TV:gI [4,6,5]= [4,5,6]:=by unfold gI;simp[List.mergeSort,List.MergeSort.Internal.splitInTwo,List.merge]
theorem QM:jq uX (QJ 6)= [⟨5,1⟩]:=by
 have h:rU Y1 [4,6,5]= [5]:=by unfold rU;rw[show [4,6,5].map (kC Y1)= [4,6,5] by rfl,TV];rfl
 unfold jq;simp only[uX,QJ,List.zip_cons_cons,List.zip_nil_right,List.map_cons,List.map_nil];unfold qJ;rw[h];exact rfl
theorem abv:rG (kW uX (QJ 6)) O_=⟨14,1⟩:=by
 have h:(kW uX (QJ 6)).tot 0=⟨5,1⟩:=by unfold kW;rw[QM];rfl
 simp only[O_,Xc,Xd,Xa,Xb,Y0,rG,nH,Uf];simp;rw[h];exact rfl
section
open Go.RowKit Go.Shelf
attribute [local go_sem] Oper.semAt_some
def laE:aS:=⟨⟨#[]⟩, [], [], [], [], [], [], [],0⟩
abbrev PU:dK:=⟨none,0,0⟩
theorem wL{α:Type} [Rep α] (w:World)(M:List Nat):Sl α w M none 0 0 []:=⟨rfl,Nat.le_refl _,by unfold jG;omega,by omega,.inl rfl⟩
theorem Zn(w:World)(M:List Nat):dG w M laE PU PU PU PU PU PU PU:=⟨wL w M,wL w M,wL w M,wL w M,wL w M,wL w M,wL w M,by unfold laE i64;decide⟩
structure G13(r:aS):Prop where
 small:fD r=true
 parts:∀y,y∈r.rounds->nodes (au y)<=1000
 len:r.aT.length<=1000/\r.bonus.length+r.malus.length<=1000/\r.ties.length<=1000/\r.rounds.length<=1000
 z1:∀x,x∈r.aT->x.1.size<=maxLen
 z2:∀x,x∈r.bonus++r.malus->x.1.size<=maxLen
 z3:∀x,x∈r.ties->x.1.size<=maxLen
 z4:∀x,x∈r.rounds->x.1.size<=maxLen
 a1:(r.aT.all fun x=>bZ x.1)=true
 a2:((r.bonus++r.malus).all fun x=>bZ x.1)=true
 a3:(r.ties.all fun x=>bZ x.1)=true
 a4:(r.rounds.all fun x=>bZ x.1)=true
 o1:dX (dP r) r.aT.length=true
 o2:dX (UG r) (r.bonus.length+r.malus.length)=true
 o3:dX (jF r) r.ties.length=true
 o4:dX (dQ r) r.rounds.length=true
 name:bZ r.name=false
theorem Ub:G13 laE:=⟨by decide+kernel,(fun y hy=>by cases hy),by decide,(fun y hy=>by cases hy),(fun y hy=>by cases hy),(fun y hy=>by cases hy),(fun y hy=>by cases hy),rfl,rfl,rfl,rfl,rfl,rfl,rfl,rfl,by decide+kernel⟩
theorem JL{M:List Nat}{r:aS}{s1 s2 s3 s4 s5 s6 s7:dK}{w:World}(hr:dG w M r s1 s2 s3 s4 s5 s6 s7)(hg:G13 r)(ht:Tab w)(hM:b_ M w):
 CB 173 #[.agg (aV r s1 s2 s3 s4 s5 s6 s7).toArray] (.tuple #[.agg nR.toArray,.int .i64 140]) w:=by
 refine wid ?_;obtain⟨W1,hW1,F1⟩:=dR (((Fr.nil w).a w.heap.size (aV r s1 s2 s3 s4 s5 s6 s7) 28).a (w.heap.size+1) nR 28);refine op1 F1 ?_;intros;have n1:=hr.aT.len;have n2:=hr.bonus.len;have n3:=hr.malus.len;have n4:=hr.ties.len;have n5:=hr.rounds.len;have HL:=oK n1 n2 n3 n4 n5;have H:=Hd ((hr.more (b:=w.heap.size+1) (by omega)).go F1.bl);have HF:=Hd F1;have HG:=Hd hg;have HT:=Hd ht;have HM:=Hd hM;have HM1:=Hd (show ∀q,q∈(w.heap.size+1)::M->q<W1.heap.size from fun q hq=>by exact ags);have HN:=h_ (show s1.n<=1000 by have:=hg.len;omega) (show s2.n+s3.n<=1000 by have:=hg.len;omega) (show s4.n<=1000 by have:=hg.len;omega) (show s5.n<=1000 by have:=hg.len;omega);have HO:=h_ (n1▸hg.o1) (n2▸n3▸hg.o2) (n4▸hg.o3) (n5▸hg.o4);have mm:=Kt;clear F1 hr hg ht hM n1 n2 n3 n4 n5;refine ent func173 rfl ntmps173 ?_
 gi_wp2_with (first
  |(refine Cl 226 (qm r.name _ H9.out.tab) ?_;rintro e w10 ⟨rfl,uU⟩;rw[HG.out.name];have ZL:=Hd (H9.out.go uU);have hfo:=ZL.out.f;refine op1 hfo ?_;intros;clear uU hfo)
  |(refine Cl 224 (Gs H8.out.rs.rounds HN.out.2.2.2 rfl HG.out.z4 H8.out.tab J8.out.2.2.2 (by simp)) ?_;rintro e w9 ⟨rfl,UR,im9⟩;rw[HG.out.a4,HO.out.2.2.2];have H9:=Hd (H8.out.turn J8.out.2.2.2 UR (by omega) (by omega));have J9:=h_ (J8.out.1.kb UR (by omega)) (J8.out.2.1.kb UR (by omega)) (J8.out.2.2.1.kb UR (by omega)) im9;have hfo:=H9.out.f;refine op1 hfo ?_;intros;clear UR im9 hfo)
  |(refine Cl 222 (Gp H7.out.rs.ties HN.out.2.2.1 rfl HG.out.z3 H7.out.tab J7.out.2.2.1 (by simp)) ?_;rintro e w8 ⟨rfl,kb8,im8⟩;rw[HG.out.a3,HO.out.2.2.1];have H8:=Hd (H7.out.turn J7.out.2.2.1 kb8 (by omega) (by omega));have J8:=h_ (J7.out.1.kb kb8 (by omega)) (J7.out.2.1.kb kb8 (by omega)) im8 (J7.out.2.2.2.kb kb8 (by omega));have hfo:=H8.out.f;refine op1 hfo ?_;intros;have v3:=H8.out.vr.1;clear kb8 im8 hfo)
  |(refine Cl 219 (Gm H6.out.2 HN.out.2.1 rfl HG.out.z2 H6.out.1.tab J6.out.2.1 (by simp)) ?_;rintro e w7 ⟨rfl,UU,im7⟩;rw[HG.out.a2,HO.out.2.1];have H7:=Hd (H6.out.1.turn J6.out.2.1 UU (by omega) (by omega));have J7:=h_ (J6.out.1.kb UU (by omega)) im7 (J6.out.2.2.1.kb UU (by omega)) (J6.out.2.2.2.kb UU (by omega));have hfo:=H7.out.f;refine op1 hfo ?_;intros;clear UU im7 hfo)
  |(refine Cl 220 (CW (H5.out.rs.bonus) (H5.out.rs.malus) (F5.out.aQ 0 0) (F5.out.aQ 0 1) (by have:=HN.out.2.1;omega)) ?_;rintro e w6 ⟨v,rfl,UW,hb6⟩;obtain⟨A6,c6,rfl,hs6⟩:=UW.sl (by have:=HN.out.2.1;omega) (H5.out.abP (fun q hq=>by have:=HM1.out q hq;have:=HZ1.out;have:=H5.out.vr.lt;omega));have H6:=Hd2 (H5.out.go hb6) hs6;have J6:=h_ (J5.out.1.go hb6) (J5.out.2.1.go hb6) (J5.out.2.2.1.go hb6) (J5.out.2.2.2.go hb6);have hfo:=H6.out.1.f;refine op1 hfo ?_;intros;clear hb6 UW hs6 hfo)
  |(refine Cl 217 (Gj H3.out.rs.aT HN.out.1 rfl HG.out.z1 H3.out.tab J3.out.1 List.mem_cons_self) ?_;rintro e w4 ⟨rfl,UY,im4⟩;rw[HG.out.a1,HO.out.1];obtain⟨W5,CZ,hb5,G5⟩:=fP (w:=w4) ((Fr.nil w4).a w4.heap.size [.slice s2.A s2.n s2.c,.slice s3.A s3.n s3.c] 23);have H4:=Hd (H3.out.turn J3.out.1 UY (Nat.le_refl _) (by omega));have H5:=Hd (H4.out.go hb5);have J5:=h_ (im4.go hb5) ((J3.out.2.1.kb UY (by omega)).go hb5) ((J3.out.2.2.1.kb UY (by omega)).go hb5) ((J3.out.2.2.2.kb UY (by omega)).go hb5);have F5:=Hd G5;have hfo:=H4.out.f;refine op1 hfo ?_;intros;clear UY im4 hb5 G5 hfo)
  |(refine Cl 216 (Gh H.out HG.out.parts) ?_;rintro e w2 ⟨rfl,hb⟩;rw[HG.out.small];obtain⟨W3,hW3,C9⟩:=Gx w2 (r.aT.map fun x=>x.1) ((r.bonus++r.malus).map fun x=>x.1) (r.ties.map fun x=>x.1) (r.rounds.map fun x=>x.1);have H3:=Hd (RB.of (HF.out.go hb) (tab_below (tab_below HT.out HF.out.bl) hb) (H.out.go hb) C9);have J3:=h_ C9.c C9.i C9.t C9.r;have HZ1:=Hd hb.size;have hfo:=H3.out.f;refine op1 hfo ?_;intros;have v1:=C9.vc.1;have v2:=C9.vr.1;clear hb hfo C9)
  |fail)
 have hb0:=ZL.out.f.bl;have hz:∀i u,nR[i]?=some u->w10.cell? ⟨w.heap.size+1,i,none⟩=some u:=ZL.out.f.nth 1;clear hW1;refine(fun(h:∀U,fM w10 (w.heap.size+1) 0 nR=U->bodyPost _ _ _ _ _ U)=>h _ rfl) ?_;intro U hU;have hbU:Below w.heap.size w U:=by rw[<-hU];exact lq (by omega) nR 0 hb0
 obtain⟨-,hc⟩:=vM nR 0 (fun i hi=>⟨nR[i],by rw[Nat.zero_add];exact hz i _ (List.getElem?_eq_getElem hi)⟩) hU;have z0:U.cell? ⟨w.heap.size+1,0,none⟩=_:=hc 0 _ rfl;have z1:U.cell? ⟨w.heap.size+1,1,none⟩=_:=hc 1 _ rfl;have z2:U.cell? ⟨w.heap.size+1,2,none⟩=_:=hc 2 _ rfl;have z3:U.cell? ⟨w.heap.size+1,3,none⟩=_:=hc 3 _ rfl;have z4:U.cell? ⟨w.heap.size+1,4,none⟩=_:=hc 4 _ rfl;have z5:U.cell? ⟨w.heap.size+1,5,none⟩=_:=hc 5 _ rfl;have z6:U.cell? ⟨w.heap.size+1,6,none⟩=_:=hc 6 _ rfl;have z7:U.cell? ⟨w.heap.size+1,7,none⟩=_:=hc 7 _ rfl;have z8:U.cell? ⟨w.heap.size+1,8,none⟩=_:=hc 8 _ rfl;clear hc hz hU;exact⟨rfl,.tuple #[.agg nR.toArray,.int .i64 140],by simp[results,go_sem,z0,z1,z2,z3,z4,z5,z6,z7,z8],rfl,hbU⟩
theorem FK{M:List Nat}{r:aS}{s1 s2 s3 s4 s5 s6 s7:dK}{w:World}(hr:dG w M r s1 s2 s3 s4 s5 s6 s7)(hg:G13 r)(ht:Tab w)(hM:b_ M w):
 CB 133 #[.agg (aV r s1 s2 s3 s4 s5 s6 s7).toArray] (.int .i64 140) w:=by
 refine wid ?_;obtain⟨W1,hW1,F1⟩:=dR ((Fr.nil w).a w.heap.size (aV r s1 s2 s3 s4 s5 s6 s7) 28);refine op1 F1 ?_;intros;have HC:=Hd (JL (hr.go F1.bl) hg (tab_below ht F1.bl) (hM.le F1.bl.size));have HF:=Hd F1;clear F1 hr hg ht hM;refine ent func133 rfl ntmps133 ?_
 gi_wp2_with (first
  |(refine Cl 173 HC.out ?_;rintro e w2 ⟨rfl,hb⟩;obtain⟨W3,hW3,yY,G3⟩:=fP (w:=w2) ((HF.out.go hb).a w2.heap.size [.string ⟨#[]⟩,.slice none 0 0,.slice none 0 0,.slice none 0 0,.slice none 0 0,.slice none 0 0,.slice none 0 0,.slice none 0 0,.int .i64 0] 28);have F3:=Hd G3;have q0:=aN (G3.aQ 1 0);have q1:=aN (G3.aQ 1 1);have q2:=aN (G3.aQ 1 2);have q3:=aN (G3.aQ 1 3);have q4:=aN (G3.aQ 1 4);have q5:=aN (G3.aQ 1 5);have q6:=aN (G3.aQ 1 6);have q7:=aN (G3.aQ 1 7);have q8:=aN (G3.aQ 1 8);refine op1 G3 ?_;intros;clear hb G3 yY)
  |fail)
 go_ret;exact⟨rfl,F3.out.bl⟩
section
variable {M:List Nat}{r:aS}{s1 s2 s3 s4 s5 s6 s7:dK}{w:World}
theorem EG(hr:dG w M r s1 s2 s3 s4 s5 s6 s7)(hg:G13 r)(ht:Tab w)(hM:b_ M w):
 CB 90 #[.agg (aV r s1 s2 s3 s4 s5 s6 s7).toArray] (.tuple #[.slice none 0 0,.int .i64 140]) w:=by
 refine wid ?_;obtain⟨W1,hW1,F1⟩:=dR ((((Fr.nil w).a w.heap.size (aV r s1 s2 s3 s4 s5 s6 s7) 28).a (w.heap.size+1) [.slice none 0 0] 133).a (w.heap.size+2) [.int .i64 0] 35);have o1:=aW F1;have F:=Hd F1;have HC:=Hd (FK (hr.go F1.bl) hg (tab_below ht F1.bl) (hM.le F1.bl.size));clear F1 hr hg ht hM;refine ent func90 rfl ntmps90 ?_
 gi_wp2_with (first
  |(refine Cl 133 HC.out ?_;rintro e w2 ⟨rfl,hb2⟩;have FO:=F.out.go hb2;have o2:=aW FO;have F3:=Fr.qY (L:= [(w.heap.size,aV r s1 s2 s3 s4 s5 s6 s7),(w.heap.size+1, [.slice none 0 0])]) (C:= [.int .i64 0]) FO (fun c vs hm=>by simp at hm;omega) (j:=0) rfl (.int .i64 140);obtain⟨w3,hw3⟩:=aC (w2.setCell ⟨w.heap.size+2,0,none⟩ (.int .i64 140));rw[hw3]at F3;have F4:=Hd (show Fr w w3 [(w.heap.size,aV r s1 s2 s3 s4 s5 s6 s7),(w.heap.size+1, [.slice none 0 0]),(w.heap.size+2, [.int .i64 140])]from F3);have o3:=aW F4.out;clear hb2 FO F3)
  |fail)
 have v3:=aF (Mr:= [w.heap.size+1]) (b:=w.heap.size+1+1) (by simp) (F4.out.aQ 2 0);have q1:=aN (F4.out.drew.aQ 1 0);have q2:=aN (F4.out.drew.aQ 2 0);refine aP [w.heap.size+1] 2 (by kernel_rfl) (by kernel_rfl) ?_;refine ay 0 ?_;refine eU 1 fun K hK=>?_;gi_wp2;refine⟨Keeps.refl _ _,?_⟩;refine lit ?_;refine iq 1 ?_;refine jW fun K hK K' hK'=>?_;gi_wp2;refine tail_nil _ ?_;simp only[cu];gi_wp2;exact⟨rfl,.tuple #[.slice none 0 0,.int .i64 140],by simp[results,go_sem,F4.out.aQ 1 0,F4.out.aQ 2 0],rfl,F4.out.drew.bl⟩
theorem EH(hr:dG w M r s1 s2 s3 s4 s5 s6 s7)(hg:G13 r)(ht:Tab w)(hM:b_ M w):
 CB 45 #[.agg (aV r s1 s2 s3 s4 s5 s6 s7).toArray] (.int .i64 140) w:=by
 refine wid ?_;obtain⟨W1,hW1,F1⟩:=dR ((Fr.nil w).a w.heap.size (aV r s1 s2 s3 s4 s5 s6 s7) 28);refine op1 F1 ?_;intros;have HC:=Hd (EG (hr.go F1.bl) hg (tab_below ht F1.bl) (hM.le F1.bl.size));have HF:=Hd F1;clear F1 hr hg ht hM;refine ent func45 rfl ntmps45 ?_
 gi_wp2_with (first
  |(refine Cl 90 HC.out ?_;rintro e w2 ⟨rfl,hb2⟩;have HB:=Hd (HF.out.bl.trans (hb2.mono HF.out.bl.size));clear hb2)
  |fail)
 go_ret;exact⟨rfl,HB.out⟩
theorem Aw{i:Int}{t1 t2 t3 t4:dK}(hr:dG w M r s1 s2 s3 s4 s5 s6 s7)(hg:G13 r)(ht:Tab w)(hM:b_ M w):
 CB 15 #[.agg (aV r s1 s2 s3 s4 s5 s6 s7).toArray,.int .i64 i,.agg (dI t1 t2 t3 t4).toArray] (.int .i64 140) w:=by
 refine wid ?_;obtain⟨W1,hW1,F1⟩:=dR (((Fr.nil w).a w.heap.size (aV r s1 s2 s3 s4 s5 s6 s7) 28).a (w.heap.size+1) (dI t1 t2 t3 t4) 32);have o1:=aW F1;have HC:=Hd (EH (hr.go F1.bl) hg (tab_below ht F1.bl) (hM.le F1.bl.size));have HF:=Hd F1;clear F1 hr hg ht hM;refine ent func15 rfl ntmps15 ?_
 gi_wp2_with (first
  |(refine Cl 45 HC.out ?_;rintro e w2 ⟨rfl,hb2⟩;have HB:=Hd (HF.out.bl.trans (hb2.mono HF.out.bl.size));clear hb2)
  |fail)
 go_ret;exact⟨rfl,HB.out⟩
end
abbrev I1(x:Int):Rt:=⟨x,1⟩
theorem Nk{M:List Nat}{x:Int}{w:World}(hM:b_ M w)(hx:i64 x):
 Calls prog 24 #[.int .i64 x] w fun e w'=>∃u,e=.returned u/\QW w' M u (I1 x)/\Below w.heap.size w w':=by
 refine wid ?_;obtain⟨W1,hW1,F1⟩:=dR ((Fr.nil w).a4 w.heap.size 42);refine op1 F1 ?_;intros;have hM1:b_ (w.heap.size::M) W1:=(hM.le F1.bl.size).cons (F1.mJ 0);have F:=Hd F1;have X:=Hd2 hM1 hx;clear hM hx hM1 F1;refine ent func24 rfl ntmps24 ?_
 gi_wp2_with (first
  |(refine⟨trivial,?_⟩;gi_at_call 58;have g':=G2.out;clear g';refine Cn (zC (M:=w.heap.size::M) (n:=1) (X.out.1.le G2.out.2.2) (by unfold i64;omega)) ?_;rintro e w3 ⟨u3,rfl,z3,hb3⟩;obtain⟨q9,B9,m9,d9,rfl,zd⟩:=ZC.of z3;have F3:=G2.out.1.go hb3;refine op1 F3 ?_;intros;have G3:=Hd2 F3 (show QC w3 (w.heap.size::M) (I1 x) p9 q9 A9 n9 c9 B9 m9 d9 from⟨G2.out.2.1.go hb3,zd⟩);clear z3 hb3 F3 zd)
  |(refine Cl 58 (zC (M:=w.heap.size::M) (n:=x) X.out.1 X.out.2) ?_;rintro e w2 ⟨u2,rfl,z2,hb2⟩;obtain⟨p9,A9,n9,c9,rfl,zn⟩:=ZC.of z2;have G2:=fB (F.out.go hb2) zn hb2.size;clear z2 hb2 zn)
  |fail)
 obtain⟨wF,hwF,t0,t1,t2,t3,hQ,bF⟩:=nN (M:=M) (G3.out.1.aQ 0 0) (G3.out.1.aQ 0 1) (G3.out.1.aQ 0 2) (G3.out.1.aQ 0 3) (x:=I1 x) G3.out.2.num.sl G3.out.2.den.sl G3.out.2.num.neg G3.out.2.den.neg G3.out.1.bl (Nat.le_refl _);try rw[hwF]
 exact⟨rfl,.agg #[.bool p9,.slice A9 n9 c9,.bool q9,.slice B9 m9 d9],by simp[results,go_sem,t0,t1,t2,t3],_,rfl,hQ,bF⟩
theorem ZC.more{w:World}{M:List Nat}{z:Int}{q:Bool}{A:Option Addr}{n c b:Nat}(h:ZC w M z q A n c)(hb:w.heap.size<=b):ZC w (b::M) z q A n c:=⟨h.neg,h.sl.more hb⟩
theorem take_same{l m:List Int}{k:Nat}{x:Int}(h:l.take k=m.take k)(h1:l[k]?=some x)(h2:m[k]?=some x):l.take (k+1)=m.take (k+1):=by rw[take_snoc h1,take_snoc h2,h]
theorem zJ{M N:List Nat}(q1 q2:Bool)(A B:Option Addr)(n c m d:Nat)(l1 l2:List Int)(w:World)(hx:Sl Int w M A n c l1)(hy:Sl Int w N B m d l2):
 CB 44 #[.agg #[.bool q1,.slice A n c],.agg #[.bool q2,.slice B m d]] (.bool (decide ((q1,l1)=(q2,l2)))) w:=by
 refine wid ?_;have hn:=hx.len;have hm:=hy.len;have hsx:=hx.small;have hsy:=hy.small;obtain⟨W1,hW1,F1⟩:=dR (((Fr.nil w).a w.heap.size [.bool q1,.slice A n c] 40).a (w.heap.size+1) [.bool q2,.slice B m d] 40);have FO:=F1;refine op1 FO ?_;intros;have X:=Hd2 hx hy;have F:=Hd F1;clear hx hy F1 FO;by_cases hq:q1=q2
 ·subst hq;by_cases hnm:n=m
  ·subst hnm;have HN:=Hd2 hn hm;clear hn hm;refine ent func44 rfl ntmps44 ?_;gi_wp2;gi_loopw[5] (fun i wr=>∃k:Nat,k<=n/\i=.int .i64 k/\Hid (l1.take k=l2.take k)/\Hid (Fr w wr [(w.heap.size, [.bool q1,.slice A n c]),(w.heap.size+1, [.bool q1,.slice B n d])])) (fun i _=>n-(intOf i).toNat);case atStart=>exact⟨0,Nat.zero_le _,rfl,Hd rfl,F.out⟩
   case round=>
    obtain⟨k,hk,rfl,ht,hF⟩:=hrel;have hF1:=hF.out;refine op1 hF1 ?_;intros;have hF2:=hF.out.drew;refine op1 hF2 ?_;intros;have kx:=hF1.nth 0;have ky:=hF1.nth 1;by_cases hlt:k<n
    ·obtain⟨b1,o1,x,rfl,hc1,-,-,hx1⟩:=(X.out.1.go hF1.bl).pR hlt;obtain⟨b2,o2,y,rfl,hc2,-,-,hy1⟩:=(X.out.2.go hF1.bl).pR hlt;have v1:=ah hc1;have v2:=ah hc2;have v3:=ah (kx 1 _ rfl);have v4:=ah (ky 1 _ rfl);have HX:=Hd2 hx1 hy1;clear hc1 hc2 hx1 hy1 kx ky;by_cases hxy:x=y;·subst hxy;have ht2:=Hd (take_same ht.out HX.out.1 HX.out.2);have HF2:=Hd hF2;clear hF1 hF2;gi_wp2;refine aP [] 11 (by kernel_rfl) (by kernel_rfl) ?_;refine ay 0 ?_;refine ay 1 ?_;refine ay 2 ?_;refine ay 3 ?_;refine ay 4 ?_;refine ay 5 ?_;refine ay 6 ?_;refine ay 7 ?_;refine ay 8 ?_;refine ay 9 ?_;refine ay 10 ?_;refine iq 0 ?_;refine tail_nil _ ?_;simp only[cu];gi_wp2;exact⟨⟨k+1,by omega,by go_num,ht2,HF2⟩,by simp[intOf];omega⟩
     have hne:decide ((q1,l1)=(q1,l2))=false:=decide_eq_false (fun e=>by have e2:=(Prod.mk.inj e).2;have h1:=HX.out.1;rw[e2,HX.out.2]at h1;exact hxy (Option.some.inj h1).symm);have HNE:=Hd hne;have HF2:=Hd hF2.bl;clear hne hF1 hF2;gi_wp2;refine aP [] 11 (by kernel_rfl) (by kernel_rfl) ?_;refine ay 0 ?_;refine ay 1 ?_;refine ay 2 ?_;refine ay 3 ?_;refine ay 4 ?_;refine ay 5 ?_;refine ay 6 ?_;refine ay 7 ?_;refine ay 8 ?_;refine ay 9 ?_;refine ay 10 ?_;refine iq 0 ?_;refine tail_nil _ ?_;simp only[cu];gi_wp2;go_ret;exact⟨by first|(rw[HNE.out];done)|(rw[HNE.out];rfl),HF2.out⟩
    ·obtain rfl:k=n:=by omega
     have hall:l1=l2:=by
      have:=ht.out
      rwa [List.take_of_length_le (by rw[HN.out.1];exact Nat.le_refl _),List.take_of_length_le (by rw[HN.out.2];exact Nat.le_refl _)]at this
     have HE:=Hd (show decide ((q1,l1)=(q1,l2))=true by rw[hall];simp);have HB:=Hd hF1.bl;clear hF1 hF2 hall kx ky;gi_wp2;go_ret;exact⟨by first|(rw[HE.out];done)|(rw[HE.out];rfl),HB.out⟩
  have HE:=Hd (show decide ((q1,l1)=(q1,l2))=false from decide_eq_false (fun e=>hnm (by rw[<-hn,<-hm,(Prod.mk.inj e).2])));clear hn hm;refine ent func44 rfl ntmps44 ?_;gi_wp2;go_ret;exact⟨by first|(rw[HE.out];done)|(rw[HE.out];rfl),F.out.bl⟩
 ·have HE:=Hd (show decide ((q1,l1)=(q2,l2))=false from decide_eq_false (fun e=>hq (Prod.mk.inj e).1));clear hn hm;cases q1<;>cases q2
  case neg.false.false=>exact absurd rfl hq
  case neg.true.true=>exact absurd rfl hq
  all_goals(
  clear hq;refine ent func44 rfl ntmps44 ?_;gi_wp2;go_ret;exact⟨by first|(rw[HE.out];done)|(rw[HE.out];rfl),F.out.bl⟩)
theorem zK{M N:List Nat}{va vb:Value}{x y:fC}{w:World}(ha:RV w M va x)(hb:RV w N vb y):
 CB 14 #[va,vb] (.bool (decide (x=y))) w:=by
 refine wid ?_;obtain⟨A1,n1,c1,B1,m1,d1,rfl,a1,a2⟩:=ha;obtain⟨A2,n2,c2,B2,m2,d2,rfl,b1,b2⟩:=hb;obtain⟨⟨p1,l1⟩,⟨q1,k1⟩⟩:=x;obtain⟨⟨p2,l2⟩,⟨q2,k2⟩⟩:=y;simp only at a1 a2 b1 b2 |-;obtain⟨W1,hW1,F1⟩:=dR (((Fr.nil w).a w.heap.size [.bool p1,.slice A1 n1 c1,.bool q1,.slice B1 m1 d1] 42).a (w.heap.size+1) [.bool p2,.slice A2 n2 c2,.bool q2,.slice B2 m2 d2] 42);refine op1 F1 ?_;intros;have X:=h_ (a1.go F1.bl) (a2.go F1.bl) (b1.go F1.bl) (b2.go F1.bl);have F:=Hd F1;clear a1 a2 b1 b2 F1;by_cases h1:(p1,l1)=(p2,l2)
 ·have H1:=Hd (decide_eq_true h1);have hE:decide (((p1,l1),(q1,k1))=((p2,l2),(q2,k2)))=decide ((q1,k1)=(q2,k2)):=by rw[h1];simp
  obtain⟨V,hV⟩:=aC (decide (((p1,l1),(q1,k1))=((p2,l2),(q2,k2))));rw[hV];have HE:=Hd (hE.symm.trans hV);clear h1 hE hV;refine ent func14 rfl ntmps14 ?_
  gi_wp2_with (first
   |(refine⟨trivial,?_⟩;gi_at_call 44;have g':=G2.out;clear g';refine Cn (zJ q1 q2 B1 B2 m1 d1 m2 d2 k1 k2 _ (X.out.2.1.go G2.out.2) (X.out.2.2.2.go G2.out.2)) ?_;rintro e w3 ⟨rfl,hb3⟩;rw[HE.out];have G3:=Hd (G2.out.1.go hb3);clear hb3)
   |(refine Cl 44 (zJ p1 p2 A1 A2 n1 c1 n2 c2 l1 l2 _ X.out.1 X.out.2.2.1) ?_;rintro e w2 ⟨rfl,hb2⟩;rw[H1.out];have F2:=F.out.go hb2;refine op1 F2 ?_;intros;have G2:=Hd2 F2 hb2;clear hb2 F2)
   |fail)
  go_ret;exact⟨rfl,G3.out.bl⟩
 ·have H1:=Hd (decide_eq_false h1);have HE:=Hd (show decide (((p1,l1),(q1,k1))=((p2,l2),(q2,k2)))=false from decide_eq_false (fun e=>h1 (Prod.mk.inj e).1));clear h1;refine ent func14 rfl ntmps14 ?_
  gi_wp2_with (first
   |(refine Cl 44 (zJ p1 p2 A1 A2 n1 c1 n2 c2 l1 l2 _ X.out.1 X.out.2.2.1) ?_;rintro e w2 ⟨rfl,hb2⟩;rw[H1.out];have G2:=Hd (F.out.go hb2);clear hb2)
   |(refine⟨trivial,?_⟩))
  go_ret;exact⟨by rw[HE.out];rfl,G2.out.bl⟩
structure Zo(w W:World)(b1 b2:Nat)(s1 s2 s3 s5 t1 t2 t3:dK)(m:Int):Prop where
 fr:Fr w W [(b1,aV uX s1 s2 s3 dH s5 dH dH),(b2,dI t1 t2 t3 dH)]
 r:dG W [b2] uX s1 s2 s3 dH s5 dH dH
 c:jE W [b2] (QJ m) t1 t2 t3 dH
 ne:b1<b2
structure SnX(W:World)(b2 b3:Nat)(p q:Bool)(A:Option Addr)(n c:Nat)(B:Option Addr)(m d:Nat)(A5:Option Addr)(c5:Nat):Prop where
 x0:W.cell? ⟨b3,0,none⟩=some (.bool p)
 x1:W.cell? ⟨b3,1,none⟩=some (.slice A n c)
 x2:W.cell? ⟨b3,2,none⟩=some (.bool q)
 x3:W.cell? ⟨b3,3,none⟩=some (.slice B m d)
 qc:QC W [b2] ⟨14,1⟩ p q A n c B m d
 l:Sl fC W [b2] A5 1 c5 [jd ⟨5,1⟩]
 ne:b3≠b2
section
variable {w W W':World}{b1 b2 b3:Nat}{s1 s2 s3 s5 t1 t2 t3 t':dK}{m m':Int}{p q:Bool}{A B A5:Option Addr}{n c k d c5:Nat}
theorem Zo.go(h:Zo w W b1 b2 s1 s2 s3 s5 t1 t2 t3 m)(hb:Below W.heap.size W W'):Zo w W' b1 b2 s1 s2 s3 s5 t1 t2 t3 m:=⟨h.fr.go hb,h.r.go hb,h.c.go hb,h.ne⟩
theorem Zo.bM(h:Zo w W b1 b2 s1 s2 s3 s5 t1 t2 t3 m):b_ [b2] W:=fun q hq=>by rw[List.mem_singleton]at hq;subst hq;exact h.fr.mJ 1
theorem Zo.mark(h:Zo w W b1 b2 s1 s2 s3 s5 t1 t2 t3 m)(hs:Sl (List Int) W [b2] t'.A t'.n t'.c [[4,m',5]])(hW:W.setCell ⟨b2,0,none⟩ (.slice t'.A t'.n t'.c)=W'):Zo w W' b1 b2 s1 s2 s3 s5 t' t2 t3 m'/\Keeps [b2] W W':=by have f:=Fr.qY (L:= [(b1,aV uX s1 s2 s3 dH s5 dH dH)]) (b:=b2) (C:=dI t1 t2 t3 dH) h.fr (fun c vs hm=>by have:=h.ne;simp at hm;omega) (j:=0) rfl (.slice t'.A t'.n t'.c);have k:Keeps [b2] W (W.setCell ⟨b2,0,none⟩ (.slice t'.A t'.n t'.c)):=(Keeps.refl _ _).setCell (p:=⟨b2,0,none⟩) (.inl (by simp)) _;rw[hW]at f k;exact⟨⟨f,h.r.keep k,⟨hs.keep k,h.c.bonus.keep k,h.c.malus.keep k,h.c.prev.keep k⟩,h.ne⟩,k⟩
theorem SnX.go(h:SnX W b2 b3 p q A n c B k d A5 c5)(hb:Below W.heap.size W W'):SnX W' b2 b3 p q A n c B k d A5 c5:=
 have f:∀{o u},W.cell? ⟨b3,o,none⟩=some u->W'.cell? ⟨b3,o,none⟩=some u:=fun hu=>(hb.cell (World.block_lt_of_cell? W _ hu)).trans hu
 ⟨f h.x0,f h.x1,f h.x2,f h.x3,h.qc.go hb,h.l.go hb,h.ne⟩
theorem SnX.keep(h:SnX W b2 b3 p q A n c B k d A5 c5)(hk:Keeps [b2] W W'):SnX W' b2 b3 p q A n c B k d A5 c5:=
 have f:∀{o u},W.cell? ⟨b3,o,none⟩=some u->W'.cell? ⟨b3,o,none⟩=some u:=fun hu=>hk.cell (by simpa using h.ne) hu
 ⟨f h.x0,f h.x1,f h.x2,f h.x3,⟨⟨h.qc.num.neg,h.qc.num.sl.keep hk⟩,⟨h.qc.den.neg,h.qc.den.sl.keep hk⟩⟩,h.l.keep hk,h.ne⟩
theorem Iy(hM:b_ [b2] W)(m:Int)(hm:i64 m):Sl (List Int) ((W.alloc (.cells #[.int .i64 4,.int .i64 m,.int .i64 5] 3)).alloc (.cells #[.slice (some ⟨W.heap.size,0,none⟩) 3 3] 26)) [b2] (some ⟨W.heap.size+1,0,none⟩) 1 1 [[4,m,5]]:=by have k1:=lN hM 3 ([4,m,5]:List Int) (by simp) (BN fun x hx=>by simp at hx;rcases hx with rfl|rfl|rfl<;>first|exact hm|exact i1);have k2:=lN (w:=W.alloc (.cells #[.int .i64 4,.int .i64 m,.int .i64 5] 3)) (hM.le (by simp)) 26 (cs:= [.slice (some ⟨W.heap.size,0,none⟩) 3 3]) ([[4,m,5]]:List (List Int)) (by simp) (wH (α:=List Int) (x:= [4,m,5]) ⟨_,_,_,rfl,k1⟩);simpa using k2
end
theorem EI{w:World}(ht:Tab w):CB 7 #[] (.bool true) w:=by
 refine wid ?_;have HT:=Hd ht;clear ht;refine ent func7 rfl ntmps7 ?_
 gi_wp2_with (first
  |(have g:=G9.out;clear g;have X9:=Aw (t1:=⟨some ⟨V1.heap.size+1,0,none⟩,1,1⟩) (t2:=t2) (t3:=t3) (t4:=dH) (i:=0) (Zn w9 [w2.heap.size+1]) Ub (tab_below HT.out S.out.fr.bl) S.out.bM;refine Cl 15 X9 ?_;clear X9;rintro e w10 ⟨rfl,hb⟩;replace S:=Hd (S.out.go hb);replace X:=Hd (X.out.go hb);clear hb)
  |(have g:=G8.out;clear g;have X9:=rO (i:=0) S.out.r S.out.c yJ (tab_below HT.out S.out.fr.bl) S.out.bM;rw[EC.1]at X9;refine Cl 15 X9 ?_;clear X9;rintro e w9 ⟨rfl,hb⟩;replace S:=Hd (S.out.go hb);replace X:=Hd (X.out.go hb);have oS:=aW S.out.fr;have G9:=Hd trivial;clear hb)
  |(have g:=G7.out;clear g;have X9:=ED (i:=0) S.out.r S.out.c (t_ (.inl rfl)) (Xu _) (x:=EW) rfl rfl (by decide) (tab_below HT.out S.out.fr.bl) S.out.bM;refine Cl 11 X9 ?_;clear X9;rintro e w8 ⟨rfl,hb⟩;replace S:=Hd (S.out.go hb);replace X:=Hd (X.out.go hb);obtain⟨V1,hV1,G1⟩:=dR (((Fr.nil w8).a w8.heap.size [.bool false,.slice none 0 0,.bool false,.slice none 0 0] 42));have oz:=aW G1;have r0:=aN (G1.aQ 0 0);have r1:=aN (G1.aQ 0 1);have r2:=aN (G1.aQ 0 2);have r3:=aN (G1.aQ 0 3);have hb1:Below w8.heap.size w8 V1:=G1.bl;replace S:=Hd (S.out.go hb1);replace X:=Hd (X.out.go hb1);clear hb hb1;obtain⟨V2,hV2⟩:=aC ((V1.alloc (.cells #[.int .i64 4,.int .i64 11,.int .i64 5] 3)).alloc (.cells #[.slice (some ⟨V1.heap.size,0,none⟩) 3 3] 26));have hb2':Below V1.heap.size V1 V2:=by rw[<-hV2];exact bel
    have hms:=Iy S.out.bM 11 i1;rw[hV2]at hms;obtain⟨V3,JM⟩:=aC (V2.setCell ⟨w2.heap.size+1,0,none⟩ (.slice (some ⟨V1.heap.size+1,0,none⟩) 1 1));obtain⟨S3,k3⟩:=(S.out.go hb2').mark (t':=⟨some ⟨V1.heap.size+1,0,none⟩,1,1⟩) (m':=11) hms JM;have oo:=aW (S.out.go hb2').fr;replace X:=Hd ((X.out.go hb2').keep k3);replace S:=Hd S3;have oS:=aW S.out.fr;clear hb2' hms S3 k3;have G8:=Hd trivial)
  |(have g:=G6.out;clear g;have X9:=EF (i:=0) S.out.r S.out.c (t_ (.inl rfl)) (by decide) (by decide) (by decide) (tab_below HT.out S.out.fr.bl) S.out.bM;refine Cl 10 X9 ?_;clear X9;rintro e w7 ⟨rfl,hb⟩;replace S:=Hd (S.out.go hb);replace X:=Hd (X.out.go hb);have oS:=aW S.out.fr;have G7:=Hd trivial;clear hb)
  |(have g:=G5.out;clear g;have X9:=kD (i:=((0:Nat):Int)) S.out.r S.out.c (t_ (.inl rfl)) (tab_below HT.out S.out.fr.bl) S.out.bM;refine Cl 15 X9 ?_;clear X9;rintro e w6 ⟨rfl,hb⟩;replace S:=Hd (S.out.go hb);replace X:=Hd (X.out.go hb);have oS:=aW S.out.fr;have G6:=Hd trivial;clear hb)
  |(have g:=G4.out;clear g;have X9:=Iw (K:=170) (i:=0) (r:=uX) (s1:=s1) (s2:=s2) (s3:=s3) (s4:=dH) (s5:=s5) (s6:=dH) (s7:=dH) (t1:=dH) (t2:=dH) (t3:=dH) (t4:=dH) (by decide) (fun V hb=>by
     have Y:=rO (c:=⟨[], [], [], []⟩) (t1:=dH) (t2:=dH) (t3:=dH) (t4:=dH) (i:=0) ((S.out.go hb).r) ⟨Sl.Es _ _,Sl.Es _ _,Sl.Es _ _,Sl.Es _ _⟩ yJ (tab_below HT.out (S.out.go hb).fr.bl) (S.out.go hb).bM;rw[EC.2.1]at Y;exact Y)
    refine Cl 11 X9 ?_;clear X9;rintro e w5 ⟨rfl,hb⟩;replace S:=Hd (S.out.go hb);replace X:=Hd (X.out.go hb);obtain⟨V1,hV1,G1⟩:=dR (((Fr.nil w5).a w5.heap.size [.bool false,.slice none 0 0,.bool false,.slice none 0 0] 42));have oz:=aW G1;have r0:=aN (G1.aQ 0 0);have r1:=aN (G1.aQ 0 1);have r2:=aN (G1.aQ 0 2);have r3:=aN (G1.aQ 0 3);have hb1:Below w5.heap.size w5 V1:=G1.bl;replace S:=Hd (S.out.go hb1);replace X:=Hd (X.out.go hb1);clear hb hb1;obtain⟨V2,hV2⟩:=aC ((V1.alloc (.cells #[.int .i64 4,.int .i64 (-1),.int .i64 5] 3)).alloc (.cells #[.slice (some ⟨V1.heap.size,0,none⟩) 3 3] 26));have hb2':Below V1.heap.size V1 V2:=by rw[<-hV2];exact bel
    have hms:=Iy S.out.bM (-1) i1;rw[hV2]at hms;obtain⟨V3,JM⟩:=aC (V2.setCell ⟨w2.heap.size+1,0,none⟩ (.slice (some ⟨V1.heap.size+1,0,none⟩) 1 1));obtain⟨S3,k3⟩:=(S.out.go hb2').mark (t':=⟨some ⟨V1.heap.size+1,0,none⟩,1,1⟩) (m':=(-1)) hms JM;have oo:=aW (S.out.go hb2').fr;replace X:=Hd ((X.out.go hb2').keep k3);replace S:=Hd S3;have oS:=aW S.out.fr;clear hb2' hms S3 k3;have G5:=Hd trivial)
  |(have g:=G3.out;clear g;have X9:=Iw (K:=1) (i:=1) (r:=uX) (s1:=s1) (s2:=s2) (s3:=s3) (s4:=dH) (s5:=s5) (s6:=dH) (s7:=dH) (t1:=t1) (t2:=t2) (t3:=t3) (t4:=dH) (by decide) (fun V hb=>by
     have Y:=rO (i:=1) ((S.out.go hb).r) ((S.out.go hb).c) yJ (tab_below HT.out (S.out.go hb).fr.bl) (S.out.go hb).bM;rw[EC.2.2]at Y;exact Y)
    refine Cl 11 X9 ?_;clear X9;rintro e w4 ⟨rfl,hb⟩;replace S:=Hd (S.out.go hb);replace X:=Hd (X.out.go hb);obtain⟨V1,hV1,G1⟩:=dR (((Fr.nil w4).a w4.heap.size [.bool false,.slice none 0 0,.bool false,.slice none 0 0] 42));have oz:=aW G1;have r0:=aN (G1.aQ 0 0);have r1:=aN (G1.aQ 0 1);have r2:=aN (G1.aQ 0 2);have r3:=aN (G1.aQ 0 3);have hb1:Below w4.heap.size w4 V1:=G1.bl;replace S:=Hd (S.out.go hb1);replace X:=Hd (X.out.go hb1);clear hb hb1;have oS:=aW S.out.fr;have G4:=Hd trivial)
  |(have g:=G2.out;clear g;have X9:=Iu (i:=0) S.out.r S.out.c (t_ (.inr rfl)) (by decide) (by decide) (by decide) (tab_below HT.out S.out.fr.bl) S.out.bM;rw[QM]at X9;refine Cl 10 X9 ?_;clear X9;rintro e w4' ⟨A5,n5,c5,rfl,hl5,hb⟩;obtain rfl:n5=1:=hl5.len.symm;have X:=Hd (show SnX w4' (w2.heap.size+1) w3.heap.size p q A n c B m d A5 c5 from⟨(HQ.out.1.go hb).aQ 2 0,(HQ.out.1.go hb).aQ 2 1,(HQ.out.1.go hb).aQ 2 2,(HQ.out.1.go hb).aQ 2 3,HQ.out.2.go hb,hl5,by omega⟩);replace S:=Hd (S.out.go hb);have oS:=aW S.out.fr;have G3:=Hd trivial;clear hb hl5)
  |(have g:=G1.out;clear g;have X9:=Nj (i:=0) S.out.r S.out.c (t_ (.inr rfl)) (Xu _) (x:=EW) rfl rfl (by decide) (tab_below HT.out S.out.fr.bl) S.out.bM;refine Cl 11 X9 ?_;clear X9;rintro e w3 ⟨u,rfl,z,hb⟩;rw[show au EW=O_ from rfl,abv]at z;obtain⟨p,q,A,n,c,B,m,d,rfl,qc⟩:=QC.of z;obtain⟨W4,I4,F4⟩:=dR ((S.out.fr.go hb).a w3.heap.size [.bool p,.slice A n c,.bool q,.slice B m d] 42);have hb4:Below w3.heap.size w3 W4:=by rw[<-I4];exact bel
    have hl3:w2.heap.size+1<w3.heap.size:=(S.out.fr.go hb).mJ 1;replace S:=Hd ((S.out.go hb).go hb4);have HQ:=Hd2 F4 (qc.go hb4);have o4:=aW F4;have G2:=Hd trivial;clear hb hb4 F4 qc z)
  |(refine Cl 23 (one_any _) ?_;intro e w2 hw;unfold Y3 at hw;obtain⟨s1,s2,s3,s5,t1,t2,t3,rfl,hr,hc,hb⟩:=hw;obtain⟨W3,hW3,F3⟩:=dR ((((Fr.nil w).go hb).a w2.heap.size (aV uX s1 s2 s3 dH s5 dH dH) 28).a (w2.heap.size+1) (dI t1 t2 t3 dH) 32);have hb3:Below w2.heap.size w2 W3:=by rw[<-hW3];exact bel
    have S:=Hd (show Zo w W3 w2.heap.size (w2.heap.size+1) s1 s2 s3 s5 t1 t2 t3 6 from⟨F3,(hr.moreL [w2.heap.size+1] (fun k hk=>by simp at hk;omega)).go hb3,⟨(hc.marks.more (by omega)).go hb3,(hc.bonus.more (by omega)).go hb3,(hc.malus.more (by omega)).go hb3,(hc.prev.more (by omega)).go hb3⟩,Nat.lt_succ_self _⟩);have o3:=aW F3;have q3:=aN (F3.aQ 1 3);have G1:=Hd trivial;clear hb hb3 hr hc F3)
  |fail)
 obtain⟨b6,o6,A6,n6,c6,A7,n7,c7,e6,y0,y1,y2,y3,qc5⟩:=Sl.PI (ls:= [⟨5,1⟩]) (k:=0) X.out.l rfl;subst e6;simp only[Nat.zero_mul,Nat.add_zero]at y0 y1 y2 y3;have v0:=ah X.out.x0;have v1:=ah X.out.x1;have v2:=ah X.out.x2;have v3:=ah X.out.x3;have HY:=h_ y0 y1 y2 y3;have hbd:Below w10.heap.size w10 w10.drew:=(Below.refl _ _).drew;have HA0:=Hd hbd;have HQ:=h_ (X.out.qc.go hbd) (qc5.go hbd) S.out.bM (S.out.fr.bl.trans (hbd.mono S.out.fr.bl.size));clear y0 y1 y2 y3 qc5 hbd oS oz oo;refine ak [] [0,1,2,3,4,5,6,7,8,9,10,11,12,13,14,15] (by kernel_rfl) (by kernel_rfl) ?_;refine eH ?_;refine aH fun K hK=>aA rfl rfl wy fun K' hK'=>?_;gi_wp2;refine Cl 24 (Nk (M:= [w2.heap.size+1]) (HQ.out.2.2.1.le (Nat.le_refl _)) i1) ?_;rintro e w11 ⟨g1,rfl,z1,hb1⟩;have X9:=zK (HQ.out.1.go hb1).qw.rv z1.rv;rw[decide_eq_true rfl]at X9;have HA:=Hd2 X9 hb1;refine hK' _ _ ⟨?_,hK _ _ ?_⟩;clear hK' K' hK K;·exact Keeps.of_below hb1 _
 clear z1 hb1 X9;refine lit ?_;refine eH ?_;refine aH fun K hK=>aA rfl rfl wy fun K' hK'=>?_;gi_wp2;refine Cl 14 HA.out.1 ?_;rintro e w12 ⟨rfl,hb2⟩;have Xx:Below w10.heap.size w10 w12:=(show Below w10.heap.size w10 w11 from HA0.out.trans HA.out.2).trans (hb2.mono (HA0.out.trans HA.out.2).size);have u0:=stays ((Xx.cell (p:=⟨b6,o6,none⟩) (World.block_lt_of_cell? w10 _ HY.out.1)).trans HY.out.1);have u1:=stays ((Xx.cell (p:=⟨b6,o6+1,none⟩) (World.block_lt_of_cell? w10 _ HY.out.2.1)).trans HY.out.2.1);have u2:=stays ((Xx.cell (p:=⟨b6,o6+2,none⟩) (World.block_lt_of_cell? w10 _ HY.out.2.2.1)).trans HY.out.2.2.1);have u3:=stays ((Xx.cell (p:=⟨b6,o6+3,none⟩) (World.block_lt_of_cell? w10 _ HY.out.2.2.2)).trans HY.out.2.2.2);have HB:=Hd (HA.out.2.trans (hb2.mono HA.out.2.size));clear Xx;refine hK' _ _ ⟨?_,hK _ _ ?_⟩;clear hK' K' hK K;·exact Keeps.of_below hb2 _
 clear hb2;refine lit ?_;refine eH ?_;refine aH fun K hK=>aA rfl rfl wy fun K' hK'=>?_;gi_wp2;refine Cl 24 (Nk (M:= [w2.heap.size+1]) (HQ.out.2.2.1.le HB.out.size) i1) ?_;rintro e w13 ⟨g2,rfl,z3,hb3⟩;have abw:=HB.out.trans (hb3.mono HB.out.size);have X9:=zK (HQ.out.2.1.go abw).qw.rv z3.rv;rw[decide_eq_true rfl]at X9;have HC:=Hd2 X9 abw;refine hK' _ _ ⟨?_,hK _ _ ?_⟩;clear hK' K' hK K;·exact Keeps.of_below hb3 _
 clear z3 hb3 X9 abw;refine lit ?_;refine eH ?_;refine aH fun K hK=>aA rfl rfl wy fun K' hK'=>?_;gi_wp2;refine Cl 14 HC.out.1 ?_;rintro e w14 ⟨rfl,hb4⟩;have HD:=Hd (HQ.out.2.2.2.trans ((HC.out.2.trans (hb4.mono HC.out.2.size)).mono HQ.out.2.2.2.size));refine hK' _ _ ⟨?_,hK _ _ ?_⟩;clear hK' K' hK K;·exact Keeps.of_below hb4 _
 clear hb4;refine lit ?_;refine eH ?_;refine aK ?_;refine lit ?_;gi_wp2;go_ret;exact⟨rfl,HD.out⟩
end
end Go.Proofs.YtlcgbfkdnmdigaaGreatDoor
