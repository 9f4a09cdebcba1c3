/- Lemmas and walks; no statement is proved here. -/
import Derived.Test.YtlcgbfkdnmdigaaGreatDoorM35
set_option linter.unusedVariables false
set_option linter.unusedSimpArgs false
set_option maxRecDepth 20000
set_option maxHeartbeats 6000000
namespace Go.Proofs.YtlcgbfkdnmdigaaGreatDoor
open Go.Proofs.Tryz Go.RowKit Go.Shelf
theorem agT{p:Prop}(h:p:=by
 first
 |exact(gK (by assumption)).elim
 |(go_ret;exact Says.no (by first|rfl|simp[*]) F2.out.bl)):p:=h
theorem ael{p:Prop}(h:p:=by
 refine ent func59 rfl ntmps59 ?_;gi_wp2_with (first|(refine⟨trivial,?_⟩))
 go_ret;exact Says.no (by first|rfl|simp[*]) HF.out.bl):p:=h
theorem afA{p:Prop}(h:p:=by gi_wp2;exact⟨⟨k+1,by omega,by go_num,trivial,Hd ((Fg.out _).2 (bY HT.out.1 ((Fg.out k).1 hT.out) (by rw[HT.out.2];omega)))⟩,by simp[intOf];omega⟩):p:=h
variable {M:List Nat}{r:aS}{s1 s2 s3 s4 s5 s6 s7:dK}{w:World}
section
attribute [local go_sem] Oper.semAt_some
theorem gK{b:Bool}(h:some undef=some (Value.bool b)):False:=by cases h
def Yw(w:World)(R:List Value)(Q:Nat->Prop)(n:Nat)(i:Value)(wr:World):Prop:=∃k:Nat,k<=n/\i=.int .i64 k/\Hid (Q k)/\Hid (Fr w wr [(w.heap.size,R)])
attribute [irreducible] Yw
theorem Sr(hr:dG w M r s1 s2 s3 s4 s5 s6 s7):
 Calls prog 59 #[.agg (aV r s1 s2 s3 s4 s5 s6 s7).toArray] w (Says (RF r/\r.rounds.length<=12) w):=by
 refine wid ?_;obtain⟨P,hP⟩:=aC (RF r/\r.rounds.length<=12);rw[hP];obtain⟨A4,q4,c4⟩:=s4;obtain⟨A5,q5,c5⟩:=s5;have h4:Sl dA w M A4 q4 c4 r.ties:=hr.ties;have h5:Sl aJ w M A5 q5 c5 r.rounds:=hr.rounds;obtain⟨W1,hW1,F1⟩:=dR ((Fr.nil w).a w.heap.size (aV r s1 s2 s3 ⟨A4,q4,c4⟩ ⟨A5,q5,c5⟩ s6 s7) 28);have o1:=aW F1;have HF:=Hd F1;have H:=fB h4 h5 hP;have HL:=oK hr.aT.len hr.bonus.len hr.malus.len h4.len h5.len;clear F1 hr h4 h5 hP;by_cases g1:((s1.n:Nat):Int)>70;·exact ael
 by_cases g2:((s2.n:Nat):Int)>70;·exact ael
 by_cases g3:((s3.n:Nat):Int)>70;·exact ael
 by_cases g4:((q4:Nat):Int)>20;·exact ael
 by_cases g5:((q5:Nat):Int)>12;·exact ael
 by_cases g6:((s6.n:Nat):Int)>70;·exact ael
 by_cases g7:((s7.n:Nat):Int)>70;·exact ael
 obtain⟨R,hR⟩:∃R:List Value,aV r s1 s2 s3 ⟨A4,q4,c4⟩ ⟨A5,q5,c5⟩ s6 s7=R:=⟨_,rfl⟩;have RU:=Hd (show ∀V,Fr w V [(w.heap.size,R)]↔Fr w V [(w.heap.size,aV r s1 s2 s3 ⟨A4,q4,c4⟩ ⟨A5,q5,c5⟩ s6 s7)]from fun V=>by rw[hR]);obtain⟨Q4,Vt⟩:∃Q:Nat->Prop,∀k,Q k↔∀t,t∈r.ties.take k->t.2.length<=40:=⟨_,fun _=>Iff.rfl⟩;obtain⟨Q5,ZT⟩:∃Q:Nat->Prop,∀k,Q k↔∀x,x∈r.rounds.take k->nodes (au x)<=400:=⟨_,fun _=>Iff.rfl⟩;have Fg:=Hd Vt;have Qq:=Hd ZT;have F0:=Hd ((RU.out _).2 HF.out);clear Vt ZT hR;refine ent func59 rfl ntmps59 ?_;gi_wp2;clear o1;gi_loopw[3] (fun i wr=>Yw w R Q4 q4 i wr) (fun i _=>q4-(intOf i).toNat);case atStart=>unfold Yw;exact⟨0,Nat.zero_le _,rfl,Hd ((Fg.out 0).2 (by simp)),F0⟩
 case round=>
  unfold Yw at hrel;obtain⟨k,hk,rfl,hT,hF⟩:=hrel;have F:=Hd ((RU.out _).1 hF.out);have o1:=aW F.out;by_cases hlt:k<q4
  ·obtain⟨t,htk⟩:=dW r.ties k (by rw[HL.out.2.2.2.1];exact hlt);obtain⟨b,o,B,m,d,rfl,⟨p0,p1⟩,hks⟩:=(H.out.1.go F.out.bl).n_ htk;have hkm:=hks.len;have HT:=Hd2 htk hkm;clear htk hks hkm;by_cases hm:((m:Nat):Int)>40;·gi_wp2;go_ret;exact Says.no rfl F.out.bl
   gi_wp2;exact⟨by unfold Yw;exact⟨k+1,by omega,by go_num,Hd ((Fg.out _).2 (bY HT.out.1 ((Fg.out k).1 hT.out) (by rw[HT.out.2];omega))),hF⟩,by simp[intOf];omega⟩
  ·obtain rfl:k=q4:=by omega
   have XZ:=Hd (show ∀t,t∈r.ties->t.2.length<=40 by have h:=(Fg.out k).1 hT.out;rwa [List.take_of_length_le (by rw[HL.out.2.2.2.1];exact Nat.le_refl _)]at h);clear hk hlt hT;gi_wp2;clear o1 F;gi_loopw[4] (fun i wr=>Yw w R Q5 q5 i wr) (fun i _=>q5-(intOf i).toNat);case atStart=>unfold Yw;exact⟨0,Nat.zero_le _,rfl,Hd ((Qq.out 0).2 (by simp)),hF⟩
   case round=>
    unfold Yw at hrel;obtain⟨j,hj,rfl,hT,hF⟩:=hrel;have F:=Hd ((RU.out _).1 hF.out);have o1:=aW F.out;by_cases hlt:j<q5
    ·obtain⟨y,hy⟩:=dW r.rounds j (by rw[HL.out.2.2.2.2];exact hlt);obtain⟨b1,u1,D1,m1,e1,rfl,-,⟨x6,x7,x8,x9,x10⟩,-,-,-,hs1⟩:=(H.out.2.1.go F.out.bl).iw hy;have HP:=Hd (yR (au y) hs1 (show 400<=100000 by omega));obtain⟨z,hz⟩:=aC (qU (nodes (au y)) 400);rw[hz]at HP;have HZ:=Hd2 hz hy;clear hz hy hs1;by_cases hg:((z:Nat):Int)>400
     ·gi_wp2_with (first
        |(refine Cl 25 HP.out ?_;rintro e w2 ⟨rfl,hb2⟩;have F2:=Hd (F.out.go hb2);clear hb2)
        |fail)
      go_ret;exact Says.no rfl F2.out.bl
     gi_wp2_with (first
      |(refine Cl 25 HP.out ?_;rintro e w2 ⟨rfl,hb2⟩;have F2:=Hd (F.out.go hb2);clear hb2)
      |fail)
     exact⟨by unfold Yw;exact⟨j+1,by omega,by go_num,Hd ((Qq.out _).2 (bY HZ.out.2 ((Qq.out j).1 hT.out) (by have h:=HZ.out.1;unfold qU at h;omega))),Hd ((RU.out _).2 F2.out)⟩,by simp[intOf];omega⟩
    ·obtain rfl:j=q5:=by omega
     have HE:=Hd (show P by have h:=(Qq.out j).1 hT.out;rw[List.take_of_length_le (by rw[HL.out.2.2.2.2];exact Nat.le_refl _)]at h;rw[<-H.out.2.2];have l1:=HL.out.1;have l2:=HL.out.2.1;have l3:=HL.out.2.2.1;have l4:=HL.out.2.2.2.1;have l5:=HL.out.2.2.2.2;exact⟨⟨fun y hy=>Nat.le_trans (h y hy) (by omega),by omega,fun t ht=>Nat.le_trans (XZ.out t ht) (by omega)⟩,by omega⟩);clear hj hlt hT;gi_wp2;go_ret;exact Says.yes rfl HE.out F.out.bl
theorem Sv(hr:dG w M r s1 s2 s3 s4 s5 s6 s7):
 Calls prog 26 #[.agg (aV r s1 s2 s3 s4 s5 s6 s7).toArray] w (Says (Sm r/\r.rounds.length<=12) w):=by
 refine wid ?_;obtain⟨P,hP⟩:=aC (Sm r/\r.rounds.length<=12);rw[hP];obtain⟨A4,q4,c4⟩:=s4;have h4:Sl dA w M A4 q4 c4 r.ties:=hr.ties;have hsm:=h4.small;obtain⟨W1,hW1,F1⟩:=dR ((Fr.nil w).a w.heap.size (aV r s1 s2 s3 ⟨A4,q4,c4⟩ s5 s6 s7) 28);have o1:=aW F1;have X:=Sr (hr.go F1.bl);have HX:=Hd X;have HF:=Hd F1;have H:=fB h4 h4.len hP;obtain⟨Q4,Vt⟩:∃Q:Nat->Prop,∀k,Q k↔∀t,t∈r.ties.take k->t.2.length<=4\/32<t.2.length:=⟨_,fun _=>Iff.rfl⟩;have Fg:=Hd Vt;clear F1 hr h4 hP X Vt;refine ent func26 rfl ntmps26 ?_;gi_wp2;gi_loopw[3] (fun i wr=>∃k:Nat,k<=q4/\i=.int .i64 k/\W1=wr/\Hid (Q4 k)) (fun i _=>q4-(intOf i).toNat);case atStart=>exact⟨0,Nat.zero_le _,rfl,by first|rfl|exact hW1|exact hW1.symm,Hd ((Fg.out 0).2 (by simp))⟩
 case round=>
  obtain⟨k,hk,rfl,rfl,hT⟩:=hrel;by_cases hlt:k<q4
  ·obtain⟨t,htk⟩:=dW r.ties k (by rw[H.out.2.1];exact hlt);obtain⟨b,o,B,m,d,rfl,⟨p0,p1⟩,hks⟩:=(H.out.1.go HF.out.bl).n_ htk;have hkm:=hks.len;have HT:=Hd2 htk hkm;clear htk hks hkm;by_cases g1:((m:Nat):Int)>4
   ·by_cases g2:((m:Nat):Int)<=32;·gi_wp2;go_ret;exact Says.no rfl HF.out.bl
    exact afA
   exact afA
  ·obtain rfl:k=q4:=by omega
   have XZ:=Hd (show ∀t,t∈r.ties->t.2.length<=4\/32<t.2.length by have h:=(Fg.out k).1 hT.out;exact afr);clear hk hlt hT;by_cases g1:((k:Nat):Int)<=5
   ·gi_wp2_with (first
      |(refine Cl 59 HX.out ?_;rintro e w2 hw;obtain⟨b,rfl,hb,hb2⟩:=hw.of;have HB:=Hd hb;have F2:=Hd (HF.out.go hb2);have o2:=aW F2.out;clear hb hb2 hw;cases b)
      |(refine⟨trivial,?_⟩))
    all_goals first
     |exact(gK (by assumption)).elim
     |(go_ret;first
       |exact Says.yes (by first|rfl|simp[*]) (by rw[<-H.out.2.2];exact⟨⟨(HB.out (by trivial)).1,.inl (by rw[H.out.2.1];omega),XZ.out⟩,(HB.out (by trivial)).2⟩) F2.out.bl
       |exact Says.no (by first|rfl|simp[*]) F2.out.bl)
   by_cases g2:((k:Nat):Int)>16
   ·gi_wp2_with (first
      |(refine Cl 59 HX.out ?_;rintro e w2 hw;obtain⟨b,rfl,hb,hb2⟩:=hw.of;have HB:=Hd hb;have F2:=Hd (HF.out.go hb2);have o2:=aW F2.out;clear hb hb2 hw;cases b)
      |(refine⟨trivial,?_⟩))
    all_goals first
     |exact(gK (by assumption)).elim
     |(go_ret;first
       |exact Says.yes (by first|rfl|simp[*]) (by rw[<-H.out.2.2];exact⟨⟨(HB.out (by trivial)).1,.inr (by rw[H.out.2.1];omega),XZ.out⟩,(HB.out (by trivial)).2⟩) F2.out.bl
       |exact Says.no (by first|rfl|simp[*]) F2.out.bl)
   gi_wp2_with (first
    |(refine Cl 59 HX.out ?_;rintro e w2 hw;obtain⟨b,rfl,hb,hb2⟩:=hw.of;have F2:=Hd (HF.out.go hb2);have o2:=aW F2.out;clear hb hb2 hw;cases b)
    |(refine⟨trivial,?_⟩))
   all_goals exact agT
end
end Go.Proofs.YtlcgbfkdnmdigaaGreatDoor
