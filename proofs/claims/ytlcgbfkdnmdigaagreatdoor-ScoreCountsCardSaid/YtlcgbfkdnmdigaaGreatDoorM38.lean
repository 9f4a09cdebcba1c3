/- Lemmas and walks; no statement is proved here. -/
import Derived.Test.YtlcgbfkdnmdigaaGreatDoorM36
import Derived.Test.YtlcgbfkdnmdigaaGreatDoorM37
import Derived.Test.YtlcgbfkdnmdigaaGreatDoorM16
set_option linter.unusedVariables false
set_option linter.unusedSimpArgs false
set_option maxRecDepth 20000
set_option maxHeartbeats 6000000
namespace Go.Proofs.YtlcgbfkdnmdigaaGreatDoor
open Go.Proofs.Tryz Go.RowKit
theorem aec{p:Prop}(h:p:=by
 refine ent func29 rfl ntmps29 ?_
 gi_wp2_with (first
  |(have g:=G1.out;clear g;have X:=HC.out.2 _ F.out.bl;refine Cl 66 X ?_;clear X;rintro e w2 ⟨rfl,hb2⟩;replace F:=Hd (F.out.go hb2);have o1:=aW F.out;clear hb2)
  |(have X:=HC.out.1 _ F.out.bl;refine Cl 66 X ?_;clear X;rintro e w2 ⟨rfl,hb2⟩;replace F:=Hd (F.out.go hb2);have o1:=aW F.out;have G1:=Hd trivial;clear hb2)
  |(refine⟨trivial,?_⟩))
 go_ret;exact⟨by rw[HZ.out];simp[*],F.out.bl⟩):p:=h
theorem aeg{p:Prop}(h:p:=by
 gi_wp2_with (first
  |(refine Cl 26 Jl.out ?_;rintro e w2 hw;obtain⟨b,rfl,hb,hb2⟩:=hw.of;have F2:=Hd (F.out.go hb2);have o2:=aW F2.out;clear hb hb2 hw;cases b)
  |(refine⟨trivial,?_⟩))
 all_goals exact agT):p:=h
theorem aeM{p:Prop}(h:p:=by
 refine ent func9 rfl ntmps9 ?_
 gi_wp2_with (first
  |(refine Cl 28 HC.out ?_;rintro e w2 hw;obtain⟨K,rfl,hK,hb2⟩:=hw.of;replace F:=Hd (F.out.go hb2);have o1:=aW F.out;clear hb2 hw hK;rcases MO K with rfl|hkb)
  |fail)
 all_goals
  go_ret;first|exact iD.bad rfl (bne_iff_ne.1 hkb) F.out.bl|exact iD.bad rfl (by decide) F.out.bl):p:=h
theorem aeS{p:Prop}(h:p:=by
 gi_wp2;refine ak [] [0,1,2,3,4,5,6,7,8,9,10,11,12,13,14,15,16] (by kernel_rfl) (by kernel_rfl) ?_;repeat(first|refine jR ?_|refine dY ?_|refine jS ?_|refine dY ?_ rfl rfl (dU rfl (by(simp[yielded];rfl))))
 refine aK ?_;refine lit ?_;gi_wp2;go_ret;exact⟨by rw[HZ.out,<-hS.out,HY.out.1,HY.out.2];simp;omega,Nu.out⟩):p:=h
theorem afi{p:Prop}(h:p:=by refine ent func60 rfl ntmps60 ?_;gi_wp2;go_ret;exact⟨by rw[H1.out];first|rfl|(simp;omega),by exact bel⟩):p:=h
theorem af8{p:Prop}(h:p:=by rw[<-hS.out,HY.out.1,HY.out.2,decide_eq_true (show 0<=y by omega),decide_eq_true (show y<=t by omega)];rfl):p:=h
theorem agz{p:Prop}(h:p:=by rw[HZ.out,<-hS.out,jr (by rw[List.length_zip,H.out.2.1,H.out.2.2.2];omega)];simp):p:=h
theorem agA{p:Prop}(h:p:=by rw[HZ2.out,<-hS.out,jr (by rw[List.length_zip,HL.out.1,HL.out.2.1];omega)];simp):p:=h
theorem agC{p:Prop}(h:p:=by gi_wp2;go_ret;exact⟨by rw[HZ.out,decide_eq_false HH.out];rfl,Below.refl _ _⟩):p:=h
variable {M:List Nat}{w:World}{b k n m d:Nat}{x:Int}{c:dS}{A B:Option Addr}{l:List Int}{r:aS}{s1 s2 s3 s4 s5 s6 s7 t1 t2 t3 t4:dK}{q:Bool}{s:List (List Int)}
structure DF where
 name:ByteArray
 lo:Int
 hi:Int
 st:Int
 how:Int
 tr:Int
 rev:Bool
abbrev DF.cells(c:DF):List Value:= [.string c.name,.int .i64 c.lo,.int .i64 c.hi,.int .i64 c.st,.int .i64 c.how,.int .i64 c.tr,.bool c.rev]
def fJ(c:DF):Bool:=decide (0<=c.lo/\c.lo<c.hi/\c.hi<=1000/\1<=c.st/\0<=c.tr/\c.tr<=127/\1<=c.how/\c.how<=3/\(c.how≠2->c.tr=0)/\(c.hi-c.lo)%c.st=0)
def Nv(c:DF)(m:Int):Bool:=decide (c.lo<=m/\m<=c.hi/\(m-c.lo)%c.st=0)
def DI:List Int->Int->Int->Int
 | [],_,_=> -1
 |x::r,v,k=>if v=x then k else DI r v (k+1)
theorem Sz(A:Option Addr)(xs:List Int)(n c:Nat)(v:Int)(w:World)(hn:xs.length=n)(hm:n<=1000000)(hx:Sl Int w M A n c xs):
 Calls prog 128 #[.slice A n c,.int .i64 v] w fun e w'=>e=.returned (.int .i64 (DI xs v 0))/\w=w':=by
 have H:=Lib.hid hx;clear hx;go_enter func128,ntmps128;go_wp2;go_loop [8] (fun i=>∃k:Nat,k<=n/\i=.int .i64 k/\Hid (DI (xs.drop k) v k=DI xs v 0)) (fun i=>n-(intOf i).toNat);case atStart=>exact⟨0,by omega,rfl,rfl⟩
 case round=>
  obtain⟨k,hk,rfl,hr⟩:=hrel;by_cases hlt:k<n
  ·obtain⟨b,o,x,rfl,hc,_,hd,_⟩:=H.out.pR hlt;have hr2:=hr.out;rw[hd,DI]at hr2;by_cases he:v=x;·rw[if_pos he]at hr2;have hr3:=Lib.hid hr2;clear hr2 hd;subst he;go_wp2;go_ret;exact⟨jL hr3.out,rfl⟩
   rw[if_neg he]at hr2;have hr3:=Lib.hid hr2;clear hr2 hd;go_wp2;go_round;case rel=>exact⟨k+1,by omega,by go_num,hr3.out⟩
   case measure=>simp[intOf];omega
  ·have hr2:=hr.out;rw[List.drop_of_length_le (by omega),DI]at hr2;have hr3:=Lib.hid hr2;clear hr2;go_wp2;go_ret;exact⟨jL hr3.out,rfl⟩
theorem VK(v:Int):∀(xs:List Int) (k:Int),0<=k->(v∈xs->k<=DI xs v k)/\(v∉xs->DI xs v k= -1)
 | [],k,hk=>⟨fun h=>by simp at h,fun _=>rfl⟩
 |x::r,k,hk=>by
  have ih:=VK v r (k+1) (by omega);by_cases h:v=x;·subst h;simp[DI]
  simp only[DI,if_neg h,List.mem_cons];exact⟨fun g=>by have:=ih.1 (g.resolve_left h);omega,fun g=>ih.2 (fun e=>g (.inr e))⟩
theorem contains_eq(xs:List Int)(v:Int):decide (0<=DI xs v 0)=decide (v∈xs):=by
 have h:=VK v xs 0 (by omega);by_cases g:v∈xs;·simp[g,h.1 g]
 simp[g,h.2 g]
theorem rD(A:Option Addr)(xs:List Int)(n c:Nat)(v:Int)(w:World)(hn:xs.length=n)(hm:n<=1000000)(hx:Sl Int w M A n c xs):
 Calls prog 69 #[.slice A n c,.int .i64 v] w fun e w'=>e=.returned (.bool (decide (v∈xs)))/\w=w':=by
 have H:=Lib.hid hx;have E:=Lib.hid (contains_eq xs v);clear hx;go_enter func69,ntmps69;go_wp2_with (go_at_call 128;refine(Sz A xs n c v _ hn hm H.out).mono ?_;rintro e w' ⟨rfl,rfl⟩);go_ret;exact⟨wS E.out,rfl⟩
theorem sl3{y z:Int}(h0:w.cell? ⟨b,0,none⟩=some (.int .i64 x))(h1:w.cell? ⟨b,1,none⟩=some (.int .i64 y))(h2:w.cell? ⟨b,2,none⟩=some (.int .i64 z))
 (hx:i64 x) (hy:i64 y) (hz:i64 z):Sl Int w [] (some ⟨b,0,none⟩) 3 3 [x,y,z]:=by
 refine⟨rfl,Nat.le_refl _,by unfold jG;omega,by omega,.inr ⟨b,0,rfl,?_⟩⟩;intro k u hu
 match k,hu with
 |0,hu=>cases hu;exact⟨_,⟨rfl,hx⟩,by simp,by intro j u hu;match j,hu with|0,hu=>cases hu;exact h0⟩
 |1,hu=>cases hu;exact⟨_,⟨rfl,hy⟩,by simp,by intro j u hu;match j,hu with|0,hu=>cases hu;exact h1⟩
 |2,hu=>cases hu;exact⟨_,⟨rfl,hz⟩,by simp,by intro j u hu;match j,hu with|0,hu=>cases hu;exact h2⟩
theorem Fp(b:Nat)(x y z v:Int)(w:World)(h0:w.cell? ⟨b,0,none⟩=some (.int .i64 x))(h1:w.cell? ⟨b,1,none⟩=some (.int .i64 y))(h2:w.cell? ⟨b,2,none⟩=some (.int .i64 z))
 (hx:i64 x) (hy:i64 y) (hz:i64 z):
 Calls prog 69 #[.slice (some ⟨b,0,none⟩) 3 3,.int .i64 v] w fun e w'=>e=.returned (.bool (decide (v=x\/v=y\/v=z)))/\w=w':=
 (rD _ [x,y,z] 3 3 v w rfl (by omega) (sl3 h0 h1 h2 hx hy hz)).mono fun e w' ⟨he,hw⟩=>⟨by rw[he];exact wS (by simp),hw⟩
theorem vX(s:ByteArray)(lo hi st how tr:Int)(rv:Bool)(w:World):
 CB 37 #[.agg #[.string s,.int .i64 lo,.int .i64 hi,.int .i64 st,.int .i64 how,.int .i64 tr,.bool rv]] (.bool (fJ ⟨s,lo,hi,st,how,tr,rv⟩)) w:=by
 go_enter func37,ntmps37;go_wp2_with (go_at_call 69;refine(Fp _ 1 2 3 _ _ (by go_simp) (by go_simp) (by go_simp) (by simp[i64]) (by simp[i64]) (by simp[i64])).mono ?_;rintro e w' ⟨rfl,rfl⟩);all_goals go_ret
 all_goals refine⟨wS ?_,by first|exact((Below.refl _ _).alloc (Nat.le_refl _) _)|exact(((Below.refl _ _).alloc (Nat.le_refl _) _).alloc (by simp) _)⟩
 all_goals grind [fJ]
theorem kP{c:DF}(h:fJ c=true):(0<=c.lo/\c.lo<c.hi/\c.hi<=1000)/\1<=c.st/\(0<=c.tr/\c.tr<=127)/\(1<=c.how/\c.how<=3)/\(c.how≠2->c.tr=0)/\(c.hi-c.lo)%c.st=0:=by
 unfold fJ at h;have:=of_decide_eq_true h
 grind
def pz(c:DF)(m:Int):Int×Int:=if fJ c then(if Nv c m then((if c.rev then c.lo+c.hi-m else m),0)else(0,160))else(0,150)
theorem DJ(s:ByteArray)(lo hi st how tr:Int)(rv:Bool)(m:Int)(w:World):
 Calls prog 89 #[.agg #[.string s,.int .i64 lo,.int .i64 hi,.int .i64 st,.int .i64 how,.int .i64 tr,.bool rv],.int .i64 m] w fun e w'=>e=.returned (.tuple #[.int .i64 (pz ⟨s,lo,hi,st,how,tr,rv⟩ m).1,.int .i64 (pz ⟨s,lo,hi,st,how,tr,rv⟩ m).2])/\Below w.heap.size w w':=by
 cases hr:fJ ⟨s,lo,hi,st,how,tr,rv⟩with
 |false=>go_enter func89,ntmps89;go_wp2_with (go_at_call 37;refine(vX s lo hi st how tr rv _).mono ?_;rintro e w1 ⟨rfl,hb⟩);go_ret2;exact⟨by simp[pz,hr],((Below.refl _ _).alloc (Nat.le_refl _) _).trans (hb.mono (by simp))⟩
 |true=>
  obtain⟨⟨h1,h2,h3⟩,h4,-,-,-,-⟩:=kP hr;simp only at h1 h2 h3 h4;go_enter func89,ntmps89;go_wp2_with (go_at_call 37;refine(vX s lo hi st how tr rv _).mono ?_;rintro e w1 ⟨rfl,hb⟩;have hc:=hb.cell (p:=⟨w.heap.size,0,none⟩) (by simp);have hc1:=hb.cell (p:=⟨w.heap.size,1,none⟩) (by simp);have hc2:=hb.cell (p:=⟨w.heap.size,2,none⟩) (by simp);have hc3:=hb.cell (p:=⟨w.heap.size,3,none⟩) (by simp);have hc6:=hb.cell (p:=⟨w.heap.size,6,none⟩) (by simp));all_goals(try go_ret2)
  all_goals refine⟨abI ?_,((Below.refl _ _).alloc (Nat.le_refl _) _).trans (hb.mono (by simp))⟩
  all_goals grind [pz,Nv]
theorem on_any(s:ByteArray)(lo hi st how tr:Int)(rv:Bool)(m:Int)(w:World)(hr:fJ ⟨s,lo,hi,st,how,tr,rv⟩=true):
 Calls prog 155 #[.agg #[.string s,.int .i64 lo,.int .i64 hi,.int .i64 st,.int .i64 how,.int .i64 tr,.bool rv],.int .i64 m] w fun e w'=>e=.returned (.bool (Nv ⟨s,lo,hi,st,how,tr,rv⟩ m))/\Below w.heap.size w w':=by
 obtain⟨⟨h1,h2,h3⟩,h4,-,-,-,-⟩:=kP hr;simp only at h1 h2 h3 h4;clear hr;go_enter func155,ntmps155;go_wp2;all_goals go_ret
 all_goals refine⟨wS ?_,(Below.refl _ _).alloc (Nat.le_refl _) _⟩
 all_goals grind [Nv]
section
open Go.Shelf
attribute [local go_sem] Oper.semAt_some
def rX(c:bT):DF:=⟨c.1,c.2.1,c.2.2.1,c.2.2.2.1,c.2.2.2.2.1,c.2.2.2.2.2.1,c.2.2.2.2.2.2⟩
def oD(c:bT)(m:Int):Bool:=decide (m= -1)||Nv (rX c) m
def jc(c:bT)(p:Int)(l:List Int):Bool:=decide ((l.length:Int)=p)&&l.all (oD c)
def countB(x:bW)(n:Int):Bool:=decide (0<=n)&&decide (n<=x.2.2)
def dV(xs:List bW)(l:List Int):Bool:=decide (l.length=xs.length)&&(xs.zip l).all fun p=>countB p.1 p.2
def kS(r:aS)(i:Nat)(p:Int)(c:dS):Bool:=
 decide (c.marks.length=r.aT.length)&&dV r.bonus c.bonus&&dV r.malus c.malus&&decide (c.prev.length=i)&&((r.aT.zip c.marks).all fun q=>jc q.1 p q.2)&&c.prev.all dF
theorem DX{c:bT}(h:zM c)(ht:c.2.2.2.2.2.1<=127):fJ (rX c)=true:=by obtain⟨h1,h2,h3,h4,h5,h6,h7,h8,h9⟩:=h;unfold fJ rX;refine decide_eq_true ⟨h1,h2,h3,h4,h8,ht,h6,h7,fun e=>h9.resolve_right e,?_⟩;show(c.2.2.1-c.2.1)%c.2.2.2.1=0;rw[<-Int.tmod_eq_emod_of_nonneg (by omega)];exact h5
theorem oG{α β:Type}{xs:List α}{ys:List β}{x:α}{y:β}(hx:xs[k]?=some x)(hy:ys[k]?=some y):(xs.zip ys)[k]?=some (x,y):=by rw[List.getElem?_zip_eq_some];exact⟨hx,hy⟩
abbrev Qz(c:bT):Value:=.agg #[.string c.1,.int .i64 c.2.1,.int .i64 c.2.2.1,.int .i64 c.2.2.2.1,.int .i64 c.2.2.2.2.1,.int .i64 c.2.2.2.2.2.1,.bool c.2.2.2.2.2.2]
abbrev DY(c:bT):List Value:= [.string c.1,.int .i64 c.2.1,.int .i64 c.2.2.1,.int .i64 c.2.2.2.1,.int .i64 c.2.2.2.2.1,.int .i64 c.2.2.2.2.2.1,.bool c.2.2.2.2.2.2]
theorem VX(c:bT)(m:Int)(w:World)(hr:fJ (rX c)=true):CB 123 #[Qz c,.int .i64 m] (.bool (oD c m)) w:=by
 refine wid ?_;obtain⟨W1,hW1,F1⟩:=dR ((Fr.nil w).a w.heap.size (DY c) 53);have o1:=aW F1;have HF:=Hd F1;have HC:=Hd (on_any c.1 c.2.1 c.2.2.1 c.2.2.2.1 c.2.2.2.2.1 c.2.2.2.2.2.1 c.2.2.2.2.2.2 m W1 hr);obtain⟨z,hz⟩:=aC (Nv (rX c) m);rw[show(⟨c.1,c.2.1,c.2.2.1,c.2.2.2.1,c.2.2.2.2.1,c.2.2.2.2.2.1,c.2.2.2.2.2.2⟩:DF)=rX c from rfl,hz]at HC;obtain⟨Z,hZ⟩:=aC (oD c m);have HZ:=Hd (show Z=(decide (m= -1)||z) by rw[<-hZ,oD,hz]);rw[hZ];clear F1 hz hZ;by_cases hm:m= -1
 ·subst hm;refine ent func123 rfl ntmps123 ?_;gi_wp2_with (first|(refine⟨trivial,?_⟩))
  go_ret;exact⟨by rw[HZ.out];rfl,HF.out.bl⟩
 have hmb:(m== -1)=false:=beq_eq_false_iff_ne.2 hm;have HH:=Hd hm;clear hm;refine ent func123 rfl ntmps123 ?_
 gi_wp2_with (first
  |(refine Cl 155 HC.out ?_;rintro e w2 ⟨rfl,hb2⟩;have F2:=Hd (HF.out.go hb2);clear hb2)
  |fail)
 go_ret;exact⟨by rw[HZ.out,decide_eq_false HH.out];rfl,F2.out.bl⟩
theorem Lp{cp:Nat}(c:bT)(p:Int)(hr:fJ (rX c)=true)(hs:Sl Int w M A n cp l):
 CB 67 #[Qz c,.slice A n cp,.int .i64 p] (.bool (jc c p l)) w:=by
 refine wid ?_;have hsm:=hs.small;obtain⟨W1,hW1,F1⟩:=dR ((Fr.nil w).a w.heap.size (DY c) 53);have o1:=aW F1;have HF:=Hd F1;have H:=fB hs hs.len hr;obtain⟨Z,hZ⟩:=aC (jc c p l);have HZ:=Hd (show Z=(decide ((n:Int)=p)&&l.all (oD c)) by rw[<-hZ,jc,hs.len]);rw[hZ];clear F1 hs hr hZ;by_cases hp:((n:Nat):Int)=p;rotate_left;·have hpb:(((n:Nat):Int)!=p)=true:=bne_iff_ne.2 hp;have HH:=Hd hp;clear hp;refine ent func67 rfl ntmps67 ?_;gi_wp2;go_ret;exact⟨by rw[HZ.out,decide_eq_false HH.out];rfl,HF.out.bl⟩
 subst hp;refine ent func67 rfl ntmps67 ?_;gi_wp2;gi_loopw[7] (fun i wr=>∃k:Nat,k<=n/\i=.int .i64 k/\Hid ((l.drop k).all (oD c)=l.all (oD c))/\Hid (Fr w wr [(w.heap.size,DY c)])) (fun i _=>n-(intOf i).toNat);case atStart=>exact⟨0,Nat.zero_le _,rfl,Hd rfl,HF⟩
 case round=>
  obtain⟨k,hk,rfl,hS,hF⟩:=hrel;have o2:=aW hF.out;by_cases hlt:k<n
  ·obtain⟨b,o,y,rfl,c0,-,-,hy⟩:=(H.out.1.go hF.out.bl).pR hlt;have hst:=iC (P:=oD c) hy;obtain⟨z,hz⟩:=aC (oD c y);have X:=VX c y wr.drew H.out.2.2;rw[hz]at X;have HC:=Hd X;have HY:=Hd2 hst hz;have v0:=ah c0;have u0:=ah (hF.out.aQ 0 0);have u1:=ah (hF.out.aQ 0 1);have u2:=ah (hF.out.aQ 0 2);have u3:=ah (hF.out.aQ 0 3);have u4:=ah (hF.out.aQ 0 4);have u5:=ah (hF.out.aQ 0 5);have u6:=ah (hF.out.aQ 0 6);clear c0 hy hst hz X;cases z
   all_goals
    gi_wp2;refine ak [] [0,1,2,3,4,5,6] (by kernel_rfl) (by kernel_rfl) ?_;refine eH ?_;refine aH fun K hK=>aA rfl rfl wy fun K' hK'=>?_;gi_wp2;refine Cl 123 HC.out ?_;rintro e w2 ⟨rfl,hb2⟩;have F2:=Hd (hF.out.drew.go hb2)
    refine hK' _ _ ⟨?_,hK _ _ ?_⟩;clear hK' K' hK K;·exact Keeps.of_below hb2 _
    clear hb2;refine lit ?_;refine eH ?_;refine aK ?_;refine lit ?_;gi_wp2
   ·go_ret;exact⟨by rw[HZ.out,<-hS.out,HY.out.1,HY.out.2];simp,F2.out.bl⟩
   exact⟨⟨k+1,by omega,by go_num,Hd (by rw[<-hS.out,HY.out.1,HY.out.2,Bool.true_and]),F2⟩,by simp[intOf];omega⟩
  ·obtain rfl:k=n:=by omega
   have HE:=Hd (show Z=true by rw[HZ.out,<-hS.out,jr (by rw[H.out.2.1];exact Nat.le_refl _)];simp);clear hk hlt;gi_wp2;go_ret;exact⟨by rw[HE.out];rfl,hF.out.bl⟩
theorem yA{c:Nat}{xs:List bW}(hx:Sl bW w M A n c xs)(hs:Sl Int w M B m d l):
 CB 66 #[.slice A n c,.slice B m d] (.bool (dV xs l)) w:=by
 refine wid ?_;have hsm:=hs.small;have hsn:=hx.small;have H:=h_ hx hx.len hs hs.len;obtain⟨Z,hZ⟩:=aC (dV xs l);have HZ:=Hd (show Z=(decide (m=n)&&(xs.zip l).all fun p=>countB p.1 p.2) by rw[<-hZ,dV,hs.len,hx.len]);rw[hZ];clear hs hx hZ;by_cases hp:m=n;rotate_left;·have hpb:(((m:Nat):Int)!=((n:Nat):Int))=true:=bne_iff_ne.2 (by omega);have HH:=Hd hp;refine ent func66 rfl ntmps66 ?_;exact agC
 subst hp;refine ent func66 rfl ntmps66 ?_;gi_wp2;gi_loopw[5] (fun i wr=>∃k:Nat,k<=m/\i=.int .i64 k/\Hid (((xs.zip l).drop k).all (fun p=>countB p.1 p.2)=(xs.zip l).all fun p=>countB p.1 p.2)/\Hid (Below w.heap.size w wr)) (fun i _=>m-(intOf i).toNat);case atStart=>exact⟨0,Nat.zero_le _,rfl,Hd rfl,Hd (Below.refl _ _)⟩
 case round=>
  obtain⟨k,hk,rfl,hS,hB⟩:=hrel;by_cases hlt:k<m
  ·obtain⟨x,hx⟩:=dW xs k (by rw[H.out.2.1];exact hlt);obtain⟨b,o,y,rfl,c0,-,-,hy⟩:=(H.out.2.2.1.go hB.out).pR hlt;obtain⟨b2,o2,es,rfl,hes,hrw⟩:=(H.out.1.go hB.out).get hx;obtain⟨rfl,-⟩:=oU hes;have hst:=iC (P:=fun p:bW×Int=>countB p.1 p.2) (oG hx hy);obtain⟨t,ht⟩:=aC x.2.2;have v0:=ah c0;have v1:=ah (show wr.cell? ⟨b2,o2+k*3+2,none⟩=some (.int .i64 t) by rw[<-ht];exact hrw.2 2 _ rfl);have HY:=Hd2 hst (show countB x y=(decide (0<=y)&&decide (y<=t)) by rw[countB,ht]);have Nu:=Hd hB.out.drew;clear c0 hy hx hst hes hrw ht;by_cases g1:y<0;·have g1d:decide (y<0)=true:=decide_eq_true g1;exact aeS
   have g1d:decide (y<0)=false:=decide_eq_false g1;by_cases g2:t<y;·have g2d:decide (t<y)=true:=decide_eq_true g2;exact aeS
   have g2d:decide (t<y)=false:=decide_eq_false g2;gi_wp2;refine ak [] [0,1,2,3,4,5,6,7,8,9,10,11,12,13,14,15,16] (by kernel_rfl) (by kernel_rfl) ?_;repeat(first|refine jR ?_|refine dY ?_|refine jS ?_|refine dY ?_ rfl rfl (dU rfl (by(simp[yielded];rfl))))
   refine aK ?_;refine lit ?_;gi_wp2;exact⟨⟨k+1,by omega,by go_num,Hd (by exact af8),Nu⟩,by simp[intOf];omega⟩
  ·obtain rfl:k=m:=by omega
   have HE:=Hd (show Z=true by exact agz);clear hk hlt;gi_wp2;go_ret;exact⟨by rw[HE.out];rfl,hB.out⟩
structure jE(w:World)(M:List Nat)(c:dS)(s1 s2 s3 s4:dK):Prop where
 marks:Sl (List Int) w M s1.A s1.n s1.c c.marks
 bonus:Sl Int w M s2.A s2.n s2.c c.bonus
 malus:Sl Int w M s3.A s3.n s3.c c.malus
 prev:Sl fC w M s4.A s4.n s4.c c.prev
theorem jE.go{w w':World}{M:List Nat}{c:dS}{s1 s2 s3 s4:dK}(h:jE w M c s1 s2 s3 s4)(hb:Below w.heap.size w w'):jE w' M c s1 s2 s3 s4:=⟨h.marks.go hb,h.bonus.go hb,h.malus.go hb,h.prev.go hb⟩
abbrev dI(s1 s2 s3 s4:dK):List Value:= [.slice s1.A s1.n s1.c,.slice s2.A s2.n s2.c,.slice s3.A s3.n s3.c,.slice s4.A s4.n s4.c]
theorem Sl.tX{bs:List (List Int)}{x:List Int}(h:Sl (List Int) w M B m d bs)(hk:bs[k]?=some x):
 ∃b o A n c,B=some ⟨b,o,none⟩/\w.cell? ⟨b,o+k,none⟩=some (.slice A n c)/\Sl Int w M A n c x:=by
 obtain⟨b,o,es,rfl,⟨A,n,c,rfl,h1⟩,h2⟩:=h.get hk;exact⟨b,o,A,n,c,rfl,by have:=h2.c0 rfl;rwa [show Rep.sz (List Int)=1 from rfl,Nat.mul_one]at this,h1⟩
theorem MJ{x:aJ}{i:Nat}(hr:dG w M r s1 s2 s3 s4 s5 s6 s7)(hc:jE w M c t1 t2 t3 t4)(hx:r.rounds[i]?=some x)(hq:∀y,y∈r.aT->fJ (rX y)=true)(hM:b_ M w):
 CB 29 #[.agg (aV r s1 s2 s3 s4 s5 s6 s7).toArray,.int .i64 i,.agg (dI t1 t2 t3 t4).toArray] (.bool (kS r i x.2.1 c)) w:=by
 refine wid ?_;obtain⟨A1,q1,c1⟩:=s1;obtain⟨A5,q5,c5⟩:=s5;obtain⟨B1,p1,d1⟩:=t1;obtain⟨B4,p4,d4⟩:=t4;have h1:Sl bT w M A1 q1 c1 r.aT:=hr.aT;have h5:Sl aJ w M A5 q5 c5 r.rounds:=hr.rounds;have m1:Sl (List Int) w M B1 p1 d1 c.marks:=hc.marks;have m4:Sl fC w M B4 p4 d4 c.prev:=hc.prev;have YZ:=m1.small;have adp:=m4.small;have hi:i<q5:=by rw[<-h5.len];exact(List.getElem?_eq_some_iff.1 hx).1
 have JC:=h5.small;obtain⟨zb,hzb⟩:=aC (dV r.bonus c.bonus);obtain⟨zm,hzm⟩:=aC (dV r.malus c.malus);have X:(∀V,Below w.heap.size w V->Calls prog 66 #[.slice s2.A s2.n s2.c,.slice t2.A t2.n t2.c] V fun e w'=>e=.returned (.bool (dV r.bonus c.bonus))/\Below V.heap.size V w')/\(∀V,Below w.heap.size w V->Calls prog 66 #[.slice s3.A s3.n s3.c,.slice t3.A t3.n t3.c] V fun e w'=>e=.returned (.bool (dV r.malus c.malus))/\Below V.heap.size V w'):=⟨fun V hb=>yA (hr.bonus.go hb) (hc.bonus.go hb),fun V hb=>yA (hr.malus.go hb) (hc.malus.go hb)⟩;rw[hzb,hzm]at X;have HC:=Hd X;obtain⟨W1,hW1,F1⟩:=dR (((Fr.nil w).a w.heap.size (aV r ⟨A1,q1,c1⟩ s2 s3 s4 ⟨A5,q5,c5⟩ s6 s7) 28).a (w.heap.size+1) (dI ⟨B1,p1,d1⟩ t2 t3 ⟨B4,p4,d4⟩) 32);have o1:=aW F1;have F:=Hd F1;have H:=oK h1 h5 m1 m4 hM;have HL:=h_ h1.len m1.len m4.len hq;obtain⟨Z,hZ⟩:=aC (kS r i x.2.1 c);have HZ:=Hd (show Z=(decide (p1=q1)&&zb&&zm&&decide (p4=i)&&((r.aT.zip c.marks).all fun q=>jc q.1 x.2.1 q.2)&&c.prev.all dF) by rw[<-hZ,kS,hzb,hzm,h1.len,m1.len,m4.len]);rw[hZ];have HX:=Hd hx;clear F1 h1 h5 m1 m4 hM hr hc hq hZ hzb hzm X hx;by_cases g1:p1=q1;rotate_left;·have g1b:(((p1:Nat):Int)!=((q1:Nat):Int))=true:=bne_iff_ne.2 (by omega);exact aec
 subst g1;cases zb;·exact aec
 cases zm;·exact aec
 by_cases g4:p4=i;rotate_left;·have g4b:(((p4:Nat):Int)!=((i:Nat):Int))=true:=bne_iff_ne.2 (by omega);exact aec
 subst g4;refine ent func29 rfl ntmps29 ?_
 gi_wp2_with (first
  |(have g:=G1.out;clear g;have X:=HC.out.2 _ F.out.bl;refine Cl 66 X ?_;clear X;rintro e w2 ⟨rfl,hb2⟩;replace F:=Hd (F.out.go hb2);have o1:=aW F.out;clear hb2)
  |(have X:=HC.out.1 _ F.out.bl;refine Cl 66 X ?_;clear X;rintro e w2 ⟨rfl,hb2⟩;replace F:=Hd (F.out.go hb2);have o1:=aW F.out;have G1:=Hd trivial;clear hb2)
  |(refine⟨trivial,?_⟩))
 have HZ2:=Hd (show Z=(((r.aT.zip c.marks).all fun q=>jc q.1 x.2.1 q.2)&&c.prev.all dF) by rw[HZ.out];simp);clear HZ HC G1;obtain⟨R,hR⟩:∃R:List (Nat×List Value), [(w.heap.size,aV r ⟨A1,p1,c1⟩ s2 s3 s4 ⟨A5,q5,c5⟩ s6 s7),(w.heap.size+1,dI ⟨B1,p1,d1⟩ t2 t3 ⟨B4,p4,d4⟩)]=R:=⟨_,rfl⟩;have HR:=Hd (show ∀V,Fr w V R↔Fr w V [(w.heap.size,aV r ⟨A1,p1,c1⟩ s2 s3 s4 ⟨A5,q5,c5⟩ s6 s7),(w.heap.size+1,dI ⟨B1,p1,d1⟩ t2 t3 ⟨B4,p4,d4⟩)]from fun V=>by rw[hR]);replace F:=Hd ((HR.out _).2 F.out);clear hR o1;gi_loopw[7] (fun i wr=>∃k:Nat,k<=p1/\i=.int .i64 k/\Hid (((r.aT.zip c.marks).drop k).all (fun q=>jc q.1 x.2.1 q.2)=(r.aT.zip c.marks).all fun q=>jc q.1 x.2.1 q.2)/\Hid (Fr w wr R)) (fun i _=>p1-(intOf i).toNat);case atStart=>exact⟨0,Nat.zero_le _,rfl,Hd rfl,F⟩
 case round=>
  obtain⟨k,hk,rfl,hS,hF⟩:=hrel;replace F:=Hd ((HR.out _).1 hF.out);have o1:=aW F.out;by_cases hlt:k<p1
  ·obtain⟨y,hy⟩:=dW r.aT k (by rw[HL.out.1];exact hlt);obtain⟨l,hl⟩:=dW c.marks k (by rw[HL.out.2.1];exact hlt);obtain⟨b,o,es,rfl,hes,hrw⟩:=(H.out.1.go F.out.bl).get hy;obtain⟨rfl,-⟩:=lT hes;obtain⟨b2,o2,Al,nl,cl,rfl,c0,hsl⟩:=(H.out.2.2.1.go F.out.bl).tX hl;obtain⟨b3,o3,D,m,e,rfl,⟨-,y1,-⟩,-⟩:=(H.out.2.1.go F.out.bl).iw HX.out;have hst:=iC (P:=fun q:bT×List Int=>jc q.1 x.2.1 q.2) (oG hy hl);obtain⟨z,hz⟩:=aC (jc y x.2.1 l);have X:=Lp y x.2.1 (HL.out.2.2.2 y (List.mem_of_getElem? hy)) (hsl.go (Below.refl _ _).drew);rw[hz]at X;have HCM:=Hd X;have HY:=Hd2 hst hz;have v0:=ah c0;have v1:=ah y1;have e0:=ah (show wr.cell? ⟨b,o+k*7,none⟩=some (.string y.1)from hrw.2 0 _ rfl);have e1:=ah (show wr.cell? ⟨b,o+k*7+1,none⟩=some (.int .i64 y.2.1)from hrw.2 1 _ rfl);have e2:=ah (show wr.cell? ⟨b,o+k*7+2,none⟩=some (.int .i64 y.2.2.1)from hrw.2 2 _ rfl);have e3:=ah (show wr.cell? ⟨b,o+k*7+3,none⟩=some (.int .i64 y.2.2.2.1)from hrw.2 3 _ rfl);have e4:=ah (show wr.cell? ⟨b,o+k*7+4,none⟩=some (.int .i64 y.2.2.2.2.1)from hrw.2 4 _ rfl);have e5:=ah (show wr.cell? ⟨b,o+k*7+5,none⟩=some (.int .i64 y.2.2.2.2.2.1)from hrw.2 5 _ rfl);have e6:=ah (show wr.cell? ⟨b,o+k*7+6,none⟩=some (.bool y.2.2.2.2.2.2)from hrw.2 6 _ rfl);have u1:=ah (F.out.aQ 0 1);have u5:=ah (F.out.aQ 0 5);have u0:=ah (F.out.aQ 1 0);clear c0 y1 hy hl hst hz X hes hrw hsl;cases z
   all_goals
    gi_wp2;refine ak [] [0,1,2,3,4,5,6,7,8,9,10,11,12,13,14,15,16,17] (by kernel_rfl) (by kernel_rfl) ?_;refine eH ?_;refine aH fun K hK=>aA rfl rfl wy fun K' hK'=>?_;gi_wp2;refine Cl 67 HCM.out ?_;rintro e w2 ⟨rfl,hb2⟩;have F2:=Hd (F.out.drew.go hb2)
    refine hK' _ _ ⟨?_,hK _ _ ?_⟩;clear hK' K' hK K;·exact Keeps.of_below hb2 _
    clear hb2;refine lit ?_;refine eH ?_;refine aK ?_;refine lit ?_;gi_wp2
   ·go_ret;exact⟨by rw[HZ2.out,<-hS.out,HY.out.1,HY.out.2];simp,F2.out.bl⟩
   exact⟨⟨k+1,by omega,by go_num,Hd (by rw[<-hS.out,HY.out.1,HY.out.2,Bool.true_and]),Hd ((HR.out _).2 F2.out)⟩,by simp[intOf];omega⟩
  ·obtain rfl:k=p1:=by omega
   have HE:=Hd (show Z=c.prev.all dF by exact agA);clear hk hlt hS;gi_wp2;clear o1;gi_loopw[8] (fun i wr=>∃j:Nat,j<=p4/\i=.int .i64 j/\Hid ((c.prev.drop j).all dF=c.prev.all dF)/\Hid (Fr w wr R)) (fun i _=>p4-(intOf i).toNat);case atStart=>exact⟨0,Nat.zero_le _,rfl,Hd rfl,hF⟩
   case round=>
    obtain⟨j,hj,rfl,hS,hF⟩:=hrel;replace F:=Hd ((HR.out _).1 hF.out);have o1:=aW F.out;by_cases hlt:j<p4
    ·obtain⟨y,hy⟩:=dW c.prev j (by rw[HL.out.2.2.1];exact hlt);obtain⟨b,o,E1,n1,a1,E2,n2,a2,rfl,x0,x1,x2,x3,hn1,hn2⟩:=(H.out.2.2.2.1.go F.out.bl).MG hy;have hst:=iC (P:=dF) hy;have HCQ:=Hd (MI (p:=y.1.1) (q:=y.2.1) (H.out.2.2.2.2.le F.out.bl.size) hn1 hn2);obtain⟨z,hz⟩:=aC (dF ((y.1.1,y.1.2),(y.2.1,y.2.2)));rw[hz]at HCQ;have HY:=Hd2 hst (show dF y=z from hz);clear hy hst hz hn1 hn2;cases z
     all_goals gi_wp2_with (first
      |(refine Cl 68 HCQ.out ?_;rintro e w2 ⟨rfl,hb2⟩;simp only[qM,if_true,if_false,Bool.false_eq_true];have F2:=Hd (F.out.go hb2);clear hb2)
      |fail)
     ·go_ret;exact⟨by rw[HE.out,<-hS.out,HY.out.1,HY.out.2];simp,F2.out.bl⟩
     exact⟨⟨j+1,by omega,by go_num,Hd (by rw[<-hS.out,HY.out.1,HY.out.2,Bool.true_and]),Hd ((HR.out _).2 F2.out)⟩,by simp[intOf];omega⟩
    ·obtain rfl:j=p4:=by omega
     have HQ:=Hd (show Z=true by rw[HE.out,<-hS.out,jr (by rw[HL.out.2.2.1];exact Nat.le_refl _)]);clear hj hlt hS;gi_wp2;go_ret;exact⟨by rw[HQ.out];rfl,F.out.bl⟩
def zF(l:List Int):Bool:=decide (l.length<=4)||(decide (2048<l.length)&&decide (l.length<=2052))
def MK(x:fC):Bool:=zF x.1.2&&zF x.2.2
theorem ML{c:Nat}(hs:Sl Int w M A n c l):
 CB 60 #[.agg #[.bool q,.slice A n c],.int .i64 4] (.bool (zF l)) w:=by
 refine wid ?_;have hsm:=hs.small;obtain⟨Z,hZ⟩:=aC (zF l);have HZ:=Hd (show Z=(decide (n<=4)||(decide (2048<n)&&decide (n<=2052))) by rw[<-hZ,zF,hs.len]);rw[hZ];clear hZ hs;by_cases h1:n<=4
 ·have H1:=Hd (show Z=true by rw[HZ.out,decide_eq_true h1];rfl);refine ent func60 rfl ntmps60 ?_;gi_wp2
  all_goals first
   |exact(gK (by assumption)).elim
   |(go_ret;exact⟨by rw[H1.out];first|rfl|simp[*],by exact bel⟩)
 by_cases h2:2048<n
 ·by_cases h3:n<=2052;·have H1:=Hd (show Z=true by rw[HZ.out,decide_eq_true h2,decide_eq_true h3];simp);exact afi
  have H1:=Hd (show Z=false by rw[HZ.out,decide_eq_false h1,decide_eq_false h3];simp);exact afi
 ·have H1:=Hd (show Z=false by rw[HZ.out,decide_eq_false h1,decide_eq_false h2];simp);exact afi
theorem TK{p:Bool}{c:Nat}{k:List Int}(hx:Sl Int w M A n c l)(hy:Sl Int w M B m d k):
 CB 27 #[.agg #[.bool p,.slice A n c,.bool q,.slice B m d],.int .i64 4] (.bool (zF l&&zF k)) w:=by
 refine wid ?_;obtain⟨W1,hW1,F1⟩:=dR ((Fr.nil w).a w.heap.size [.bool p,.slice A n c,.bool q,.slice B m d] 42);have o1:=aW F1;have F:=Hd F1;have X:=Hd2 (fun V (hb:Below w.heap.size w V)=>ML (q:=p) (hx.go hb)) (fun V (hb:Below w.heap.size w V)=>ML (q:=q) (hy.go hb));obtain⟨z1,hz1⟩:=aC (zF l);obtain⟨z2,hz2⟩:=aC (zF k);rw[hz1,hz2]at X |-;clear F1 hx hy hz1 hz2;cases z1
 all_goals
  refine ent func27 rfl ntmps27 ?_
  gi_wp2_with (first
   |(have g:=G1.out;clear g;have X2:=X.out.2 _ F.out.bl;refine Cl 60 X2 ?_;clear X2;rintro e w2 ⟨rfl,hb2⟩;replace F:=Hd (F.out.go hb2);clear hb2)
   |(have X2:=X.out.1 _ F.out.bl;refine Cl 60 X2 ?_;clear X2;rintro e w2 ⟨rfl,hb2⟩;replace F:=Hd (F.out.go hb2);have o2:=aW F.out;have G1:=Hd trivial;clear hb2)
   |(refine⟨trivial,?_⟩))
  go_ret;exact⟨rfl,F.out.bl⟩
def f_(r:aS)(i:Int)(c:dS):Prop:=Sound r/\∃(k:Nat) (x:aJ),i=(k:Int)/\r.rounds[k]?=some x/\kS r k x.2.1 c=true
theorem MN{x:aJ}(h:Dj r x){c:bT}(hc:c∈r.aT):c.2.2.2.2.2.1<=127:=by have h1:=h.2.2.2.1 c hc;have h2:=h.1;rw[Int.tdiv_eq_ediv_of_nonneg (by omega)]at h1;omega
theorem MO(K:Int):K=0\/(K !=0)=true:=(Decidable.em (K=0)).imp id bne_iff_ne.2
theorem tY{i:Int}(hr:dG w M r s1 s2 s3 s4 s5 s6 s7)(hc:jE w M c t1 t2 t3 t4)(hw:Sm r)(hM:b_ M w):
 Calls prog 9 #[.agg (aV r s1 s2 s3 s4 s5 s6 s7).toArray,.int .i64 i,.agg (dI t1 t2 t3 t4).toArray] w (iD (f_ r i c) w):=by
 refine wid ?_;obtain⟨P,hP⟩:=aC (f_ r i c);rw[hP];have hl5:=hr.rounds.len;have JC:=hr.rounds.small;obtain⟨W1,hW1,F1⟩:=dR (((Fr.nil w).a w.heap.size (aV r s1 s2 s3 s4 s5 s6 s7) 28).a (w.heap.size+1) (dI t1 t2 t3 t4) 32);have o1:=aW F1;have F:=Hd F1;have HC:=Hd (Oy (hr.go F1.bl) hw (hM.le F1.bl.size));have H:=oK hr hc hM hP hl5;clear F1 hr hc hw hP hM hl5;by_cases hi:i<0;·have hib:(decide (i<0))=true:=decide_eq_true hi;exact aeM
 obtain⟨k,rfl⟩:∃k:Nat,i=(k:Int):=⟨i.toNat,by omega⟩;by_cases hk:s5.n<=k
 ·have hkg:((k:Nat):Int)>=((s5.n:Nat):Int):=by omega
  exact aeM
 obtain⟨x,hx⟩:=dW r.rounds k (by rw[H.out.2.2.2.2];omega);have hkl:¬((k:Nat):Int)>=((s5.n:Nat):Int):=by omega
 have HX:=Hd hx;clear hx;obtain⟨z,hz⟩:=aC (kS r k x.2.1 c);have HZ:=Hd hz;clear hz;refine ent func9 rfl ntmps9 ?_
 gi_wp2_with (first
  |(have HS:=Hd (HK.out (by trivial));have HQ:=Hd (show ∀y,y∈r.aT->fJ (rX y)=true from fun y hy=>DX (HS.out.2.1.aT y hy) (MN (HS.out.2.1.rounds x (List.mem_of_getElem? HX.out)) hy));have X:=MJ (H.out.1.go F.out.bl) (H.out.2.1.go F.out.bl) HX.out HQ.out (H.out.2.2.1.le F.out.bl.size);rw[HZ.out]at X;refine Cl 29 X ?_;clear X;rintro e w3 ⟨rfl,hb2⟩;replace F:=Hd (F.out.go hb2);have o1:=aW F.out;clear hb2;cases z)
  |(refine Cl 28 HC.out ?_;rintro e w2 hw;obtain⟨K,rfl,hK,hb2⟩:=hw.of;replace F:=Hd (F.out.go hb2);have o1:=aW F.out;have HK:=Hd hK;clear hb2 hw hK;rcases MO K with rfl|hkb)
  |fail)
 all_goals
  go_ret
  first
   |exact iD.bad rfl (by decide) F.out.bl
   |exact iD.ok rfl (by rw[<-H.out.2.2.2.1];exact⟨HS.out,k,x,rfl,HX.out,HZ.out⟩) F.out.bl
   |exact iD.bad rfl (bne_iff_ne.1 hkb) F.out.bl
def zG(l:List Int):Nat:=l.count (-1)
def eY:List (List Int)->Nat
 | []=>0
 |l::s=>zG l+eY s
theorem Px(h:s[k]?=some l):eY (s.drop k)=zG l+eY (s.drop (k+1)):=by obtain⟨hk,rfl⟩:=List.getElem?_eq_some_iff.1 h;rw[List.drop_eq_getElem_cons hk];rfl
theorem TN{s:List Int}(h:s[k]?=some x):zG (s.drop k)=(if x= -1 then 1 else 0)+zG (s.drop (k+1)):=by obtain⟨hk,rfl⟩:=List.getElem?_eq_some_iff.1 h;rw[List.drop_eq_getElem_cons hk];unfold zG;rw[List.count_cons];split<;>simp_all<;>omega
theorem Y6(l:List Int):zG l<=l.length:=List.count_le_length
theorem Xh(h:∀l,l∈s->l.length<=b):eY s<=s.length*b:=by
 induction s with
 |nil=>simp[eY]
 |cons l s ih=>have h1:=ih fun y hy=>h y (List.mem_cons_of_mem _ hy);have h2:=h l List.mem_cons_self;have h3:=Y6 l;rw[eY,List.length_cons,Nat.succ_mul];omega
theorem Et(h:eY s=0):∀l,l∈s->∀m,m∈l->m≠ -1:=by
 induction s with
 |nil=>intro l hl;cases hl
 |cons l s ih=>
  rw[eY]at h;intro l' hl m hm;rcases List.mem_cons.1 hl with rfl|hl
  ·rintro rfl;have:=List.count_pos_iff.2 hm;have h2:zG l'=0:=by omega
   unfold zG at h2;omega
  ·exact ih (by omega) l' hl m hm
theorem Py(h:¬eY s=0):∃l,l∈s/\ -1∈l:=by
 induction s with
 |nil=>exact absurd rfl h
 |cons l s ih=>
  rw[eY]at h;by_cases h2:zG l=0;·obtain⟨l',h3,h4⟩:=ih (by omega);exact⟨l',List.mem_cons_of_mem _ h3,h4⟩
  ·exact⟨l,List.mem_cons_self,List.count_pos_iff.1 (Nat.pos_of_ne_zero h2)⟩
theorem z_(hc:jE w M c t1 t2 t3 t4)(hl:c.marks.length<=70)(hm:∀l,l∈c.marks->l.length<=20):
 CB 12 #[.agg (dI t1 t2 t3 t4).toArray] (.int .i64 (eY c.marks)) w:=by
 refine wid ?_;obtain⟨A,n,cp⟩:=t1;have h1:Sl (List Int) w M A n cp c.marks:=hc.marks;have hn:n<=70:=by rw[<-h1.len];exact hl
 obtain⟨Z,hZ⟩:=aC (eY c.marks);have hZb:Z<=1400:=by rw[<-hZ];exact Nat.le_trans (Xh hm) (by omega)
 rw[hZ];obtain⟨W1,hW1,F1⟩:=dR ((Fr.nil w).a w.heap.size (dI ⟨A,n,cp⟩ t2 t3 t4) 32);have o1:=aW F1;have F:=Hd F1;have H:=h_ (h1.go F1.bl) h1.len hm hZ;clear F1 hc hl hm hZ h1;refine ent func12 rfl ntmps12 ?_;gi_wp2;gi_loopw[3,4] (fun a i wr=>∃k g:Nat,k<=n/\i=.int .i64 k/\a=.int .i64 g/\W1=wr/\Hid (g+eY (c.marks.drop k)=Z)) (fun _ i _=>n-(intOf i).toNat);case atStart=>exact⟨0,0,Nat.zero_le _,rfl,rfl,rfl,Hd (by rw[List.drop_zero,H.out.2.2.2,Nat.zero_add])⟩
 case round=>
  obtain⟨k,g,hk,rfl,rfl,rfl,hS⟩:=hrel;by_cases hlt:k<n
  ·obtain⟨l,hlk⟩:=dW c.marks k (by rw[H.out.2.1];exact hlt);obtain⟨b,o,B,m,d,rfl,c0,hsl⟩:=H.out.1.tX hlk;have adP:m<=20:=by rw[<-hsl.len];exact H.out.2.2.1 l (List.mem_of_getElem? hlk)
   have HS:=Hd (show g+(zG l+eY (c.marks.drop (k+1)))=Z by rw[<-Px hlk];exact hS.out);have HL:=Hd2 hsl hsl.len;clear hlk hsl hS;gi_wp2;gi_loopw[3,5] (fun a i wr=>∃j g:Nat,j<=m/\i=.int .i64 j/\a=.int .i64 g/\W1=wr/\Hid (g+(zG (l.drop j)+eY (c.marks.drop (k+1)))=Z)) (fun _ i _=>m-(intOf i).toNat);case atStart=>exact⟨0,g,Nat.zero_le _,rfl,rfl,rfl,Hd (by rw[List.drop_zero];exact HS.out)⟩
   case round=>
    obtain⟨j,g,hj,rfl,rfl,rfl,hS⟩:=hrel;by_cases hlj:j<m
    ·obtain⟨b2,o2,y,rfl,y0,-,-,hy⟩:=HL.out.1.pR hlj;have hS2:=Hd (show g+((if y= -1 then 1 else 0)+zG (l.drop (j+1))+eY (c.marks.drop (k+1)))=Z by rw[<-TN hy];exact hS.out);clear hS hy;by_cases hy1:y= -1
     ·subst hy1;have hgb:g<=1400:=by have:=hS2.out;omega
      gi_wp2;exact⟨⟨j+1,g+1,by omega,by go_num,by go_num,trivial,Hd (by have:=hS2.out;rw[if_pos rfl]at this;omega)⟩,by simp[intOf];omega⟩
     have hyb:(y== -1)=false:=beq_eq_false_iff_ne.2 hy1;have HY:=Hd hy1;gi_wp2;exact⟨⟨j+1,g,by omega,by go_num,rfl,trivial,Hd (by have:=hS2.out;rw[if_neg HY.out]at this;omega)⟩,by simp[intOf];omega⟩
    ·have HE:=Hd (show g+eY (c.marks.drop (k+1))=Z by
       have h:=hS.out;rw[show zG (l.drop j)=0 by rw[List.drop_of_length_le (by rw[HL.out.2];omega)];rfl]at h;omega)
     clear hS;gi_wp2;exact⟨⟨k+1,g,by omega,by go_num,rfl,trivial,HE⟩,by simp[intOf];omega⟩
  ·have hE:g=Z:=by
     have h:=hS.out;rw[show eY (c.marks.drop k)=0 by rw[List.drop_of_length_le (by rw[H.out.2.1];omega)];rfl]at h;omega
   subst hE;clear hS;gi_wp2;go_ret;exact⟨rfl,F.out.bl⟩
structure yI(r:aS)(c:dS):Prop where
 fw:Sm r/\r.rounds.length<=12
 parts:∀x,x∈r.rounds->nodes (au x)<=60
 lens:c.marks.length<=70/\c.bonus.length<=70/\c.malus.length<=70/\c.prev.length<=10
 mark:∀l,l∈c.marks->l.length<=20
 prev:∀q,q∈c.prev->MK q=true
def TP(w:World)(R:List (Nat×List Value))(Q:Nat->Prop)(n:Nat)(i:Value)(wr:World):Prop:=∃k:Nat,k<=n/\i=.int .i64 k/\Hid (Q k)/\Hid (Fr w wr R)
attribute [irreducible] TP
theorem zH(hr:dG w M r s1 s2 s3 s4 s5 s6 s7)(hc:jE w M c t1 t2 t3 t4):
 Calls prog 8 #[.agg (aV r s1 s2 s3 s4 s5 s6 s7).toArray,.agg (dI t1 t2 t3 t4).toArray] w (Says (yI r c) w):=by
 refine wid ?_;obtain⟨P,hP⟩:=aC (yI r c);rw[hP];obtain⟨A5,q5,c5⟩:=s5;obtain⟨A1,q1,c1⟩:=t1;obtain⟨A4,q4,c4⟩:=t4;have h5:Sl aJ w M A5 q5 c5 r.rounds:=hr.rounds;have h1:Sl (List Int) w M A1 q1 c1 c.marks:=hc.marks;have h4:Sl fC w M A4 q4 c4 c.prev:=hc.prev;have JC:=h5.small;obtain⟨W1,hW1,F1⟩:=dR (((Fr.nil w).a w.heap.size (aV r s1 s2 s3 s4 ⟨A5,q5,c5⟩ s6 s7) 28).a (w.heap.size+1) (dI ⟨A1,q1,c1⟩ t2 t3 ⟨A4,q4,c4⟩) 32);have o1:=aW F1;have HX:=Hd (fun V (hb:Below w.heap.size w V)=>Sv (hr.go hb));have F:=Hd F1;have H:=fB h5 h1 h4;have HL:=oK h5.len h1.len h4.len hc.bonus.len hc.malus.len;clear F1 hr hc h5 h1 h4;obtain⟨R,hR⟩:∃R:List (Nat×List Value), [(w.heap.size,aV r s1 s2 s3 s4 ⟨A5,q5,c5⟩ s6 s7),(w.heap.size+1,dI ⟨A1,q1,c1⟩ t2 t3 ⟨A4,q4,c4⟩)]=R:=⟨_,rfl⟩;have HR:=Hd (show ∀V,Fr w V R↔Fr w V [(w.heap.size,aV r s1 s2 s3 s4 ⟨A5,q5,c5⟩ s6 s7),(w.heap.size+1,dI ⟨A1,q1,c1⟩ t2 t3 ⟨A4,q4,c4⟩)]from fun V=>by rw[hR]);have F0:=Hd ((HR.out _).2 F.out);have HP:=Hd hP;obtain⟨Q5,ZT⟩:∃Q:Nat->Prop,∀k,Q k↔∀x,x∈r.rounds.take k->nodes (au x)<=60:=⟨_,fun _=>Iff.rfl⟩;obtain⟨Q1,EL⟩:∃Q:Nat->Prop,∀k,Q k↔∀x,x∈c.marks.take k->x.length<=20:=⟨_,fun _=>Iff.rfl⟩;obtain⟨Q4,Vt⟩:∃Q:Nat->Prop,∀k,Q k↔∀x,x∈c.prev.take k->MK x=true:=⟨_,fun _=>Iff.rfl⟩;have Qq:=Hd ZT;have sD:=Hd EL;have Fg:=Hd Vt;clear hR hP ZT EL Vt;refine ent func8 rfl ntmps8 ?_;gi_wp2;clear o1;gi_loopw[5] (fun i wr=>TP w R Q5 q5 i wr) (fun i _=>q5-(intOf i).toNat);case atStart=>unfold TP;exact⟨0,Nat.zero_le _,rfl,Hd ((Qq.out 0).2 (by simp)),F0⟩
 case round=>
  unfold TP at hrel;obtain⟨k,hk,rfl,hT,hF⟩:=hrel;have F:=Hd ((HR.out _).1 hF.out);have o1:=aW F.out;have Jl:=Hd (HX.out _ F.out.bl);by_cases hlt:k<q5
  ·by_cases hl2:k<20
   ·obtain⟨y,hy⟩:=dW r.rounds k (by rw[HL.out.1];exact hlt);obtain⟨b1,u1,D1,m1,e1,rfl,-,⟨x6,x7,x8,x9,x10⟩,-,-,-,hs1⟩:=(H.out.1.go F.out.bl).iw hy;have HPA:=Hd (yR (au y) hs1 (show 60<=100000 by omega));obtain⟨z,hz⟩:=aC (qU (nodes (au y)) 60);rw[hz]at HPA;have HZ:=Hd2 hz hy;clear hz hy hs1;by_cases hg:((z:Nat):Int)>60
    all_goals gi_wp2_with (first
     |(refine Cl 25 HPA.out ?_;rintro e w2 ⟨rfl,hb2⟩;have F2:=Hd (F.out.go hb2);clear hb2)
     |fail)
    ·go_ret;exact Says.no rfl F2.out.bl
    exact⟨by unfold TP;exact⟨k+1,by omega,by go_num,Hd ((Qq.out _).2 (bY HZ.out.2 ((Qq.out k).1 hT.out) (by have h:=HZ.out.1;unfold qU at h;omega))),Hd ((HR.out _).2 F2.out)⟩,by simp[intOf];omega⟩
   have HBG:=Hd (show ¬r.rounds.length<=12 by rw[HL.out.1];omega)
   gi_wp2_with (first
    |(refine Cl 26 Jl.out ?_;rintro e w2 hw;obtain⟨b,rfl,hb,hb2⟩:=hw.of;have F2:=Hd (F.out.go hb2);have o2:=aW F2.out;have HB:=Hd hb;clear hb hb2 hw;cases b;rotate_left;·exact absurd (HB.out (by trivial)).2 HBG.out)
    |(refine⟨trivial,?_⟩))
   go_ret;exact Says.no (by first|rfl|simp[*]) F2.out.bl
  ·obtain rfl:k=q5:=by omega
   have HK5:=Hd (show ∀x,x∈r.rounds->nodes (au x)<=60 by have h:=(Qq.out k).1 hT.out;rwa [List.take_of_length_le (by rw[HL.out.1];exact Nat.le_refl _)]at h);clear hk hlt hT;by_cases g1:((q1:Nat):Int)>70;·exact aeg
   by_cases g2:((t2.n:Nat):Int)>70;·exact aeg
   by_cases g3:((t3.n:Nat):Int)>70;·exact aeg
   by_cases g4:((q4:Nat):Int)>10;·exact aeg
   gi_wp2_with (first
    |(refine Cl 26 Jl.out ?_;rintro e w2 hw;obtain⟨b,rfl,hb,hb2⟩:=hw.of;have F2:=Hd (F.out.go hb2);have o2:=aW F2.out;have HB:=Hd hb;clear hb hb2 hw;cases b)
    |(refine⟨trivial,?_⟩))
   all_goals try exact(gK (by assumption)).elim
   ·go_ret;exact Says.no (by first|rfl|simp[*]) F2.out.bl
   have HF2:=Hd ((HR.out _).2 F2.out);clear o1 o2 F hF;gi_loopw[6] (fun i wr=>TP w R Q1 q1 i wr) (fun i _=>q1-(intOf i).toNat);case atStart=>unfold TP;exact⟨0,Nat.zero_le _,rfl,Hd ((sD.out 0).2 (by simp)),HF2⟩
   case round=>
    unfold TP at hrel;obtain⟨j,hj,rfl,hT,hF⟩:=hrel;have F:=Hd ((HR.out _).1 hF.out);have o1:=aW F.out;by_cases hlt:j<q1
    ·obtain⟨l,hl⟩:=dW c.marks j (by rw[HL.out.2.1];exact hlt);obtain⟨b,o,B,m,d,rfl,c0,hsl⟩:=(H.out.2.1.go F.out.bl).tX hl;have HT:=Hd2 hl hsl.len;clear hl hsl;by_cases hm:((m:Nat):Int)>20;·gi_wp2;go_ret;exact Says.no rfl F.out.bl
     gi_wp2;exact⟨by unfold TP;exact⟨j+1,by omega,by go_num,Hd ((sD.out _).2 (bY HT.out.1 ((sD.out j).1 hT.out) (by rw[HT.out.2];omega))),hF⟩,by simp[intOf];omega⟩
    ·obtain rfl:j=q1:=by omega
     have Dx:=Hd (show ∀x,x∈c.marks->x.length<=20 by have h:=(sD.out j).1 hT.out;rwa [List.take_of_length_le (by rw[HL.out.2.1];exact Nat.le_refl _)]at h);clear hj hlt hT;gi_wp2;clear o1 F;gi_loopw[7] (fun i wr=>TP w R Q4 q4 i wr) (fun i _=>q4-(intOf i).toNat);case atStart=>unfold TP;exact⟨0,Nat.zero_le _,rfl,Hd ((Fg.out 0).2 (by simp)),hF⟩
     case round=>
      unfold TP at hrel;obtain⟨g,hg,rfl,hT,hF⟩:=hrel;have F:=Hd ((HR.out _).1 hF.out);have o1:=aW F.out;by_cases hlt:g<q4
      ·obtain⟨y,hy⟩:=dW c.prev g (by rw[HL.out.2.2.1];exact hlt);obtain⟨b,o,E1,n1,a1,E2,n2,a2,rfl,x0,x1,x2,x3,hn1,hn2⟩:=(H.out.2.2.go F.out.bl).MG hy;have HCQ:=Hd (TK (p:=y.1.1) (q:=y.2.1) hn1 hn2);obtain⟨z,hz⟩:=aC (zF y.1.2&&zF y.2.2);rw[hz]at HCQ;have HY:=Hd2 hy (show MK y=z from hz);clear hy hz hn1 hn2;cases z
       all_goals gi_wp2_with (first
        |(refine Cl 27 HCQ.out ?_;rintro e w3 ⟨rfl,hb2⟩;have F3:=Hd (F.out.go hb2);clear hb2)
        |fail)
       ·go_ret;exact Says.no rfl F3.out.bl
       exact⟨by unfold TP;exact⟨g+1,by omega,by go_num,Hd ((Fg.out _).2 (bY HY.out.1 ((Fg.out g).1 hT.out) HY.out.2)),Hd ((HR.out _).2 F3.out)⟩,by simp[intOf];omega⟩
      ·obtain rfl:g=q4:=by omega
       have HE:=Hd (show P by have h:=(Fg.out g).1 hT.out;rw[List.take_of_length_le (by rw[HL.out.2.2.1];exact Nat.le_refl _)]at h;have l1:=HL.out;rw[<-HP.out];exact⟨HB.out (by trivial),HK5.out,⟨by omega,by omega,by omega,by omega⟩,Dx.out,h⟩);clear hg hlt hT;gi_wp2;go_ret;exact Says.yes rfl HE.out F.out.bl
end
end Go.Proofs.YtlcgbfkdnmdigaaGreatDoor
