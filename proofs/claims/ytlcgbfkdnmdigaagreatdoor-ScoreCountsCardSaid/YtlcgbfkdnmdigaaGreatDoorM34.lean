/- Lemmas and walks; no statement is proved here. -/
import Derived.Test.YtlcgbfkdnmdigaaGreatDoorM33
set_option linter.unusedVariables false
set_option linter.unusedSimpArgs false
set_option maxRecDepth 20000
set_option maxHeartbeats 6000000
namespace Go.Proofs.YtlcgbfkdnmdigaaGreatDoor
open Go.Proofs.Tryz Go.RowKit Go.Shelf
theorem agM{p:Prop}(h:p:=by
 clear mk hn hq1 hq2;rcases hk with rfl|rfl;·exact ad2
 exact ad2):p:=h
theorem agP{p:Prop}(h:p:=by rw[List.take_of_length_le (by rw[HL.out];exact Nat.le_refl _)];exact hz):p:=h
theorem agS{p:Prop}(h:p:=by exact⟨⟨j+1,by omega,by go_num,Hd (bY HY.out hR.out (HB.out trivial)),F2⟩,by simp[intOf];omega⟩):p:=h
theorem ad2{p:Prop}(h:p:=by
 refine ent func154 rfl ntmps154 ?_;gi_wp2;refine ak [] [0,1,2,3,4,5,6] (by kernel_rfl) (by kernel_rfl) ?_;refine eH ?_;refine aH fun K hK=>aA rfl rfl wy fun K' hK'=>?_;gi_wp2;refine Cl 206 (bH _ _) ?_;rintro e w2 ⟨rfl,rfl⟩;rw[HA.out];refine hK' _ _ ⟨?_,hK _ _ ?_⟩;clear hK' K' hK K;·exact Keeps.refl _ _
 refine lit ?_;refine eH ?_;refine aK ?_;refine lit ?_
 gi_wp2_with (first
  |(have g:=G1.out;clear g;refine Cl 117 (aj _ _ _ _) ?_;rintro e w2 ⟨rfl,rfl⟩;rw[zU.out])
  |(refine Cl 117 (aj _ _ _ _) ?_;rintro e w2 ⟨rfl,rfl⟩;rw[sD.out];have G1:=Hd trivial)
  |(refine⟨trivial,?_⟩))
 go_ret;exact Says.no (by first|rfl|simp[*]) HF.out.bl.drew):p:=h
theorem ad5{p:Prop}(h:p:=by
 obtain⟨j,hj,rfl,hR,hF⟩:=hrel;have o3:=aW hF.out;by_cases hlt:j<m
 ·obtain⟨y,hy⟩:=dW l j (by rw[HL.out];exact hlt);obtain⟨b,o,B,m',d',rfl,⟨p0,p1,p2,p3,p4⟩,-,hys⟩:=(HI.out.2.go hF.out.bl).qQ hy;have HC:=Hd (HI.out.1 y (List.mem_of_getElem? hy) hys);have HY:=Hd hy;clear hy hys
  gi_wp2_with (first
   |(refine Cl 154 HC.out ?_;rintro e w2 hw;obtain⟨b,rfl,hb,hb2⟩:=hw.of;have F2:=Hd (hF.out.go hb2);have HB:=Hd hb;clear hb hb2 hw;cases b)
   |fail)
  ·go_ret;exact Says.no rfl F2.out.bl
  exact agS
 obtain rfl:j=m:=by omega
 have HE:=Hd (show P by rw[<-HP.out.1];refine o_ (Dw HP.out.2) (fun z hz=>hR.out z ?_);exact agP);clear hj hlt;gi_wp2;go_ret;exact Says.yes rfl HE.out hF.out.bl):p:=h
variable {M:List Nat}{A:Option Addr}{m c:Nat}{w:World}
section
attribute [local go_sem] Oper.semAt_some
def RxC(x:aU):Prop:=∀{M:List Nat}{A:Option Addr}{m c:Nat}{w:World},Sl aU w M A m c x.l->Calls prog 154 #[.agg #[.int .i64 x.kind,.string x.name,.int .i64 x.n,.int .i64 x.d,.slice A m c]] w (Says (∀y,y∈iZ x->pX y) w)
set_option maxHeartbeats 8000000 in
theorem Jh(k:Int)(s:ByteArray)(n d:Int)(l:List aU)(ih:∀y,y∈l->RxC y)(hok:Jg (.mk k s n d l))(hs:Sl aU w M A m c l):
 Calls prog 154 #[.agg #[.int .i64 k,.string s,.int .i64 n,.int .i64 d,.slice A m c]] w (Says (∀y,y∈iZ (.mk k s n d l)->pX y) w):=by
 refine wid ?_;have hl:=hs.len;have hsm:=hs.small;obtain⟨P,hP⟩:=aC (∀y,y∈iZ (.mk k s n d l)->pX y);rw[hP];have HP:=Hd2 hP hok;obtain⟨ar,har⟩:=aC (mV k);have HA:=Hd har;have e0:((m:Nat):Int)=ar:=by rw[<-har,<-hl];exact hok.len
 obtain⟨q1,hq1⟩:=aC (decide (0<=n)&&decide (n<=1099511627776));obtain⟨q2,hq2⟩:=aC (decide (1<=d)&&decide (d<=1099511627776));have sD:=Hd hq1;have zU:=Hd hq2;obtain⟨W1,hW1,F1⟩:=dR ((Fr.nil w).a w.heap.size [.int .i64 k,.string s,.int .i64 n,.int .i64 d,.slice A m c] 48);have o1:=aW F1;have o2:=aW F1.drew;have v0:=ah (F1.aQ 0 0);have v4:=ah (F1.aQ 0 4);have HF:=Hd F1;have HI:=Hd2 ih hs;have HL:=Hd hl;subst e0;clear F1 hs ih hl hP har;have hk:(k=1\/k=8)\/(k=2\/k=5)\/(k=3\/k=4\/k=6\/k=7\/k=9\/k=10\/k=11):=by
  have h:=hok.len;unfold mV at h;simp only[aU.kind]at h
  repeat' split at h
  all_goals omega
 rcases hk with hk|hk|hk
 ·have r1:=hok.num hk;have r2:=hok.name (by show ¬k=2;omega) (by show ¬k=5;omega);simp only[aU.n,aU.d,aU.name]at r1 r2;have he:s.toList.isEmpty=true:=by simpa using r2
  obtain rfl:true=q1:=by rw[<-hq1];simp;omega
  obtain rfl:true=q2:=by rw[<-hq2];simp;omega
  clear r1 r2 hok hq1 hq2;rcases hk with rfl|rfl
  ·refine ent func154 rfl ntmps154 ?_;gi_wp2;refine ak [] [0,1,2,3,4,5,6] (by kernel_rfl) (by kernel_rfl) ?_;refine eH ?_;refine aH fun K hK=>aA rfl rfl wy fun K' hK'=>?_;gi_wp2;refine Cl 206 (bH _ _) ?_;rintro e w2 ⟨rfl,rfl⟩;rw[HA.out];refine hK' _ _ ⟨?_,hK _ _ ?_⟩;clear hK' K' hK K;·exact Keeps.refl _ _
   refine lit ?_;refine eH ?_;refine aK ?_;refine lit ?_
   gi_wp2_with (first
    |(have g:=G1.out;clear g;refine Cl 117 (aj _ _ _ _) ?_;rintro e w2 ⟨rfl,rfl⟩;rw[zU.out])
    |(refine Cl 117 (aj _ _ _ _) ?_;rintro e w2 ⟨rfl,rfl⟩;rw[sD.out];have G1:=Hd trivial)
    |(refine⟨trivial,?_⟩))
   gi_loopw[4] (fun i wr=>∃j:Nat,j<=m/\i=.int .i64 j/\Hid (∀z,z∈l.take j->∀y,y∈iZ z->pX y)/\Hid (Fr w wr [(w.heap.size, [.int .i64 1,.string s,.int .i64 n,.int .i64 d,.slice A m c])])) (fun i _=>m-(intOf i).toNat);case atStart=>exact⟨0,Nat.zero_le _,rfl,Hd (by simp),Hd HF.out.drew⟩
   case round=>exact ad5
  refine ent func154 rfl ntmps154 ?_;gi_wp2;refine ak [] [0,1,2,3,4,5,6] (by kernel_rfl) (by kernel_rfl) ?_;refine eH ?_;refine aH fun K hK=>aA rfl rfl wy fun K' hK'=>?_;gi_wp2;refine Cl 206 (bH _ _) ?_;rintro e w2 ⟨rfl,rfl⟩;rw[HA.out];refine hK' _ _ ⟨?_,hK _ _ ?_⟩;clear hK' K' hK K;·exact Keeps.refl _ _
  refine lit ?_;refine eH ?_;refine aK ?_;refine lit ?_
  gi_wp2_with (first
   |(have g:=G1.out;clear g;refine Cl 117 (aj _ _ _ _) ?_;rintro e w2 ⟨rfl,rfl⟩;rw[zU.out])
   |(refine Cl 117 (aj _ _ _ _) ?_;rintro e w2 ⟨rfl,rfl⟩;rw[sD.out];have G1:=Hd trivial)
   |(refine⟨trivial,?_⟩))
  gi_loopw[4] (fun i wr=>∃j:Nat,j<=m/\i=.int .i64 j/\Hid (∀z,z∈l.take j->∀y,y∈iZ z->pX y)/\Hid (Fr w wr [(w.heap.size, [.int .i64 8,.string s,.int .i64 n,.int .i64 d,.slice A m c])])) (fun i _=>m-(intOf i).toNat);case atStart=>exact⟨0,Nat.zero_le _,rfl,Hd (by simp),Hd HF.out.drew⟩
  case round=>exact ad5
 ·have r1:=hok.no (by show ¬(k=1\/k=8);omega);simp only[aU.n,aU.d,aU.name]at r1;obtain rfl:=r1.1;clear r1 hok hq1 hq2;rcases hk with rfl|rfl
  ·refine ent func154 rfl ntmps154 ?_;gi_wp2;refine ak [] [0,1,2,3,4,5,6] (by kernel_rfl) (by kernel_rfl) ?_;refine eH ?_;refine aH fun K hK=>aA rfl rfl wy fun K' hK'=>?_;gi_wp2;refine Cl 206 (bH _ _) ?_;rintro e w2 ⟨rfl,rfl⟩;rw[HA.out];refine hK' _ _ ⟨?_,hK _ _ ?_⟩;clear hK' K' hK K;·exact Keeps.refl _ _
   refine lit ?_;refine eH ?_;refine aK ?_;refine lit ?_
   gi_wp2_with (first
    |(have g:=G1.out;clear g;refine Cl 117 (aj _ _ _ _) ?_;rintro e w2 ⟨rfl,rfl⟩;rw[zU.out])
    |(refine Cl 117 (aj _ _ _ _) ?_;rintro e w2 ⟨rfl,rfl⟩;rw[sD.out];have G1:=Hd trivial)
    |(refine⟨trivial,?_⟩))
   gi_loopw[4] (fun i wr=>∃j:Nat,j<=m/\i=.int .i64 j/\Hid (∀z,z∈l.take j->∀y,y∈iZ z->pX y)/\Hid (Fr w wr [(w.heap.size, [.int .i64 2,.string s,.int .i64 n,.int .i64 0,.slice A m c])])) (fun i _=>m-(intOf i).toNat);case atStart=>exact⟨0,Nat.zero_le _,rfl,Hd (by simp),Hd HF.out.drew⟩
   case round=>exact ad5
  refine ent func154 rfl ntmps154 ?_;gi_wp2;refine ak [] [0,1,2,3,4,5,6] (by kernel_rfl) (by kernel_rfl) ?_;refine eH ?_;refine aH fun K hK=>aA rfl rfl wy fun K' hK'=>?_;gi_wp2;refine Cl 206 (bH _ _) ?_;rintro e w2 ⟨rfl,rfl⟩;rw[HA.out];refine hK' _ _ ⟨?_,hK _ _ ?_⟩;clear hK' K' hK K;·exact Keeps.refl _ _
  refine lit ?_;refine eH ?_;refine aK ?_;refine lit ?_
  gi_wp2_with (first
   |(have g:=G1.out;clear g;refine Cl 117 (aj _ _ _ _) ?_;rintro e w2 ⟨rfl,rfl⟩;rw[zU.out])
   |(refine Cl 117 (aj _ _ _ _) ?_;rintro e w2 ⟨rfl,rfl⟩;rw[sD.out];have G1:=Hd trivial)
   |(refine⟨trivial,?_⟩))
  gi_loopw[4] (fun i wr=>∃j:Nat,j<=m/\i=.int .i64 j/\Hid (∀z,z∈l.take j->∀y,y∈iZ z->pX y)/\Hid (Fr w wr [(w.heap.size, [.int .i64 5,.string s,.int .i64 n,.int .i64 0,.slice A m c])])) (fun i _=>m-(intOf i).toNat);case atStart=>exact⟨0,Nat.zero_le _,rfl,Hd (by simp),Hd HF.out.drew⟩
  case round=>exact ad5
 ·have r1:=hok.no (by show ¬(k=1\/k=8);omega);have r3:=r1.2 (by show ¬k=2;omega) (by show ¬k=5;omega);have r2:=hok.name (by show ¬k=2;omega) (by show ¬k=5;omega);simp only[aU.n,aU.d,aU.name]at r1 r2 r3;have he:s.toList.isEmpty=true:=by simpa using r2
  obtain rfl:=r1.1;obtain rfl:=r3;have k1:¬k=1:=by omega
  have k2:¬k=2:=by omega
  have k5:¬k=5:=by omega
  have k8:¬k=8:=by omega
  have k1b:(k==1)=false:=beq_eq_false_iff_ne.2 k1;have k2b:(k==2)=false:=beq_eq_false_iff_ne.2 k2;have k5b:(k==5)=false:=beq_eq_false_iff_ne.2 k5;have k8b:(k==8)=false:=beq_eq_false_iff_ne.2 k8;clear r1 r2 hok hq1 hq2 hk;refine ent func154 rfl ntmps154 ?_;gi_wp2;refine ak [] [0,1,2,3,4,5,6] (by kernel_rfl) (by kernel_rfl) ?_;refine eH ?_;refine aH fun K hK=>aA rfl rfl wy fun K' hK'=>?_;gi_wp2;refine Cl 206 (bH _ _) ?_;rintro e w2 ⟨rfl,rfl⟩;rw[HA.out];refine hK' _ _ ⟨?_,hK _ _ ?_⟩;clear hK' K' hK K;·exact Keeps.refl _ _
  refine lit ?_;refine eH ?_;refine aK ?_;refine lit ?_
  gi_wp2_with (first
   |(have g:=G1.out;clear g;refine Cl 117 (aj _ _ _ _) ?_;rintro e w2 ⟨rfl,rfl⟩;rw[zU.out])
   |(refine Cl 117 (aj _ _ _ _) ?_;rintro e w2 ⟨rfl,rfl⟩;rw[sD.out];have G1:=Hd trivial)
   |(refine⟨trivial,?_⟩))
  gi_loopw[4] (fun i wr=>∃j:Nat,j<=m/\i=.int .i64 j/\Hid (∀z,z∈l.take j->∀y,y∈iZ z->pX y)/\Hid (Fr w wr [(w.heap.size, [.int .i64 k,.string s,.int .i64 0,.int .i64 0,.slice A m c])])) (fun i _=>m-(intOf i).toNat);case atStart=>exact⟨0,Nat.zero_le _,rfl,Hd (by simp),Hd HF.out.drew⟩
  case round=>exact ad5
set_option maxHeartbeats 8000000 in
theorem Oj(k:Int)(s:ByteArray)(n d:Int)(l:List aU)(hno:¬Jg (.mk k s n d l))(hs:Sl aU w M A m c l):
 Calls prog 154 #[.agg #[.int .i64 k,.string s,.int .i64 n,.int .i64 d,.slice A m c]] w (Says (∀y,y∈iZ (.mk k s n d l)->pX y) w):=by
 refine wid ?_;have hl:=hs.len;obtain⟨P,hP⟩:=aC (∀y,y∈iZ (.mk k s n d l)->pX y);rw[hP];obtain⟨ar,har⟩:=aC (mV k);have HA:=Hd har;obtain⟨q1,hq1⟩:=aC (decide (0<=n)&&decide (n<=1099511627776));obtain⟨q2,hq2⟩:=aC (decide (1<=d)&&decide (d<=1099511627776));have sD:=Hd hq1;have zU:=Hd hq2;obtain⟨W1,hW1,F1⟩:=dR ((Fr.nil w).a w.heap.size [.int .i64 k,.string s,.int .i64 n,.int .i64 d,.slice A m c] 48);have o1:=aW F1;have o2:=aW F1.drew;have v0:=ah (F1.aQ 0 0);have v4:=ah (F1.aQ 0 4);have HF:=Hd F1;clear F1 hs hP;by_cases e0:((m:Nat):Int)=ar;rotate_left;·clear hq1 hq2 har;exact ad2
 subst e0;have hk:((k=1\/k=8)\/(k=2\/k=5)\/(¬k=1/\¬k=8/\¬k=2/\¬k=5)):=by omega
 have HN:=Hd hno;have mk:(((k=1\/k=8)->0<=n/\n<=1099511627776/\1<=d/\d<=1099511627776))->(¬(k=1\/k=8)->d=0/\(¬k=2->¬k=5->n=0))->(¬k=2->¬k=5->s.toList= [])->False:=fun a b c=>hno ⟨by show((l.length:Nat):Int)=mV k;rw[hl,har],a,b,c⟩;clear hl har hno;by_cases hn:s.toList= []
 ·have he:s.toList.isEmpty=true:=by simpa using hn
  rcases hk with hk|hk|⟨k1,k8,k2,k5⟩
  ·cases q1;·exact agM
   cases q2;·exact agM
   exact(mk (fun _=>by simp at hq1 hq2;omega) (fun h=>absurd hk h) (fun _ _=>hn)).elim
  ·by_cases hd:d=0;·exact(mk (fun h=>by omega) (fun _=>⟨hd,fun a b=>by omega⟩) (fun _ _=>hn)).elim
   have hdb:(d !=0)=true:=bne_iff_ne.2 hd;exact agM
  have k1b:(k==1)=false:=beq_eq_false_iff_ne.2 k1;have k2b:(k==2)=false:=beq_eq_false_iff_ne.2 k2;have k5b:(k==5)=false:=beq_eq_false_iff_ne.2 k5;have k8b:(k==8)=false:=beq_eq_false_iff_ne.2 k8;by_cases hd:d=0
  ·subst hd;by_cases hz:n=0;·exact(mk (fun h=>by omega) (fun _=>⟨rfl,fun a b=>hz⟩) (fun _ _=>hn)).elim
   have hzb:(n !=0)=true:=bne_iff_ne.2 hz;clear mk hn hq1 hq2;exact ad2
  have hdb:(d !=0)=true:=bne_iff_ne.2 hd;clear mk hn hq1 hq2;exact ad2
 ·have he:s.toList.isEmpty=false:=by simpa using hn
  rcases hk with hk|hk|⟨k1,k8,k2,k5⟩
  ·clear mk hn hq1 hq2;cases q1
   ·rcases hk with rfl|rfl;·exact ad2
    exact ad2
   cases q2
   ·rcases hk with rfl|rfl;·exact ad2
    exact ad2
   rcases hk with rfl|rfl;·exact ad2
   exact ad2
  ·by_cases hd:d=0;·exact(mk (fun h=>by omega) (fun _=>⟨hd,fun a b=>by omega⟩) (fun a b=>by omega)).elim
   have hdb:(d !=0)=true:=bne_iff_ne.2 hd;exact agM
  have k1b:(k==1)=false:=beq_eq_false_iff_ne.2 k1;have k2b:(k==2)=false:=beq_eq_false_iff_ne.2 k2;have k5b:(k==5)=false:=beq_eq_false_iff_ne.2 k5;have k8b:(k==8)=false:=beq_eq_false_iff_ne.2 k8;clear mk hn hq1 hq2;by_cases hd:d=0
  ·subst hd;by_cases hz:n=0;·subst hz;exact ad2
   have hzb:(n !=0)=true:=bne_iff_ne.2 hz;exact ad2
  have hdb:(d !=0)=true:=bne_iff_ne.2 hd;exact ad2
theorem KQ(x:aU):RxC x:=by
 induction x using iY with
 |_ x ih=>
 intro M A m c w hs;obtain⟨k,s,n,d,l⟩:=x;by_cases h:Jg (.mk k s n d l);·exact Jh k s n d l ih h hs
 exact Oj k s n d l h hs
end
end Go.Proofs.YtlcgbfkdnmdigaaGreatDoor
