/- Lemmas and walks; no statement is proved here. -/
import Derived.Test.YtlcgbfkdnmdigaaGreatDoorM43
set_option linter.unusedVariables false
set_option linter.unusedSimpArgs false
set_option maxRecDepth 20000
set_option maxHeartbeats 6000000
namespace Go.Proofs.YtlcgbfkdnmdigaaGreatDoor
open Go.Proofs.Tryz Go.RowKit Go.Shelf
variable {i:Nat}{x:aJ}
section
attribute [local go_sem] Oper.semAt_some
abbrev zQ:Value:=.agg #[.bool false,.slice none 0 0,.bool false,.slice none 0 0]
section
variable {M:List Nat}{r:aS}{s1 s2 s3 s4 s5 s6 s7:dK}{c:dS}{t1 t2 t3 t4:dK}{w:World}
theorem Iw{i K:Int}(hK:K≠0)(hC:∀V,Below w.heap.size w V->Calls prog 15 #[.agg (aV r s1 s2 s3 s4 s5 s6 s7).toArray,.int .i64 i,.agg (dI t1 t2 t3 t4).toArray] V fun e w'=>e=.returned (.int .i64 K)/\Below V.heap.size V w'):
 CB 11 #[.agg (aV r s1 s2 s3 s4 s5 s6 s7).toArray,.int .i64 i,.agg (dI t1 t2 t3 t4).toArray] (.tuple #[zQ,.int .i64 K]) w:=by
 refine wid ?_;obtain⟨W1,hW1,F1⟩:=dR (((((Fr.nil w).a w.heap.size (aV r s1 s2 s3 s4 s5 s6 s7) 28).a (w.heap.size+1) (dI t1 t2 t3 t4) 32).a (w.heap.size+2) [.bool false,.slice none 0 0,.bool false,.slice none 0 0] 42).a (w.heap.size+3) [.int .i64 0] 35);have o1:=aW F1;have F:=Hd F1;have HC:=Hd (hC W1 F1.bl);clear F1 hC;refine qj func11 rfl ntmps11 ?_
 gi_wp2_with (first
  |(have g:=G1.out;clear g;refine Cl 32 (Xn K hK _) ?_;rintro e w3 ⟨rfl,rfl⟩)
  |(refine Cl 15 HC.out ?_;rintro e w2 ⟨rfl,hb2⟩;replace F:=Hd (F.out.go hb2);have o2:=aW F.out;have G1:=Hd trivial;clear hb2)
  |fail)
 have hbl:=F.out.bl;have c3:=F.out.aQ 3 0;have f3:=F.out.zN 3 0;have d0:=F.out.aQ 2 0;have d1:=F.out.aQ 2 1;have d2:=F.out.aQ 2 2;have d3:=F.out.aQ 2 3;try clear o1
 try clear o2
 try clear o3
 refine leavesIn_cons (f:=31) (args:=#[.pointer (some ⟨w.heap.size+1+1+1,0,none⟩)]) (by simp) (by simp) (by simp[go_sem]) (fun _ _=>trivial) ?_;refine(tZ ⟨w.heap.size+1+1+1,0,none⟩ K 0 [] _ c3 f3).mono ?_;rintro e u' w'' ⟨rfl,rfl,rfl⟩;refine⟨.tuple #[zQ,.int .i64 K],?_,rfl,hbl.setCell (p:=⟨w.heap.size+1+1+1,0,none⟩) (by simp;omega) _⟩;simp[results,results11,go_sem,c3,d0,d1,d2,d3]
theorem PS(hr:dG w M r s1 s2 s3 s4 s5 s6 s7)(hc:jE w M c t1 t2 t3 t4)(hg:f_ r i c)(hw:yI r c)(hx:r.rounds[i]?=some x)(hp:x.2.2.2.2.1=true)(ht:Tab w)(hM:b_ M w):
 CB 11 #[.agg (aV r s1 s2 s3 s4 s5 s6 s7).toArray,.int .i64 i,.agg (dI t1 t2 t3 t4).toArray] (.tuple #[zQ,.int .i64 150]) w:=by
 refine wid ?_;obtain⟨W1,hW1,F1⟩:=dR (((((Fr.nil w).a w.heap.size (aV r s1 s2 s3 s4 s5 s6 s7) 28).a (w.heap.size+1) (dI t1 t2 t3 t4) 32).a (w.heap.size+2) [.bool false,.slice none 0 0,.bool false,.slice none 0 0] 42).a (w.heap.size+3) [.int .i64 0] 35);have o1:=aW F1;have F:=Hd F1;obtain⟨A5,q5,c5⟩:=s5;have h5:Sl aJ w M A5 q5 c5 r.rounds:=hr.rounds;have hi5:i<q5:=by rw[<-h5.len];exact(List.getElem?_eq_some_iff.1 hx).1
 have JC:=h5.small;obtain⟨b5,o5,-,-,-,Zm,-⟩:=h5.iw hx;subst Zm;clear h5;have HC:=Hd (kD (i:=(i:Int)) (hr.go F1.bl) (hc.go F1.bl) hg (tab_below ht F1.bl) (hM.le F1.bl.size));have H:=oK hr hc hg hw hM;have HX:=Hd hx;have HP:=Hd hp;clear F1 hr hc hg hw hM ht hx hp;refine qj func11 rfl ntmps11 ?_
 gi_wp2_with (first
  |(have g:=G1.out;clear g;refine Cl 32 (rP _) ?_;rintro e w2' ⟨rfl,rfl⟩;obtain⟨b3,ZU,D,m3,e3,eA,⟨-,-,-,-,y4,-⟩,⟨y6,y7,y8,y9,Qu⟩,-,-,hyi,hys⟩:=(H.out.1.rounds.go F.out.bl).iw HX.out;cases eA;rw[HP.out]at y4;have q0:=aN (F.out.aQ 2 0);have q1:=aN (F.out.aQ 2 1);have q2:=aN (F.out.aQ 2 2);have q3:=aN (F.out.aQ 2 3);have G2:=Hd trivial)
  |(refine Cl 15 HC.out ?_;rintro e w2 ⟨rfl,hb2⟩;have FO:=F.out.go hb2;have hk2:w.heap.size+3<w2.heap.size:=FO.mJ 3;have o2:=aW FO;replace F:=Hd FO;have G1:=Hd trivial;clear FO hb2)
  |fail)
 have hbl:=F.out.bl;have c3:=F.out.aQ 3 0;have d0:=F.out.aQ 2 0;have d1:=F.out.aQ 2 1;have d2:=F.out.aQ 2 2;have d3:=F.out.aQ 2 3;clear o1 o2 y4 y6 y7 y8 y9 Qu hys;refine leavesIn_cons (f:=31) (args:=#[.pointer (some ⟨w.heap.size+1+1+1,0,none⟩)]) (by simp) (by simp) (by simp[go_sem]) (fun _ _=>trivial) ?_;refine(rQ ⟨w.heap.size+1+1+1,0,none⟩ _).mono ?_;rintro e u' w'' ⟨rfl,rfl,rfl⟩;refine⟨.tuple #[zQ,.int .i64 150],?_,rfl,hbl.setCell (p:=⟨w.heap.size+1+1+1,0,none⟩) (by simp;omega) _⟩;simp[results,results11,go_sem,c3,d0,d1,d2,d3]
theorem ED(hr:dG w M r s1 s2 s3 s4 s5 s6 s7)(hc:jE w M c t1 t2 t3 t4)(hg:f_ r i c)(hw:yI r c)(hx:r.rounds[i]?=some x)(hp:x.2.2.2.2.1=false)(hm:¬eY c.marks=0)(ht:Tab w)(hM:b_ M w):
 CB 11 #[.agg (aV r s1 s2 s3 s4 s5 s6 s7).toArray,.int .i64 i,.agg (dI t1 t2 t3 t4).toArray] (.tuple #[zQ,.int .i64 160]) w:=by
 refine wid ?_;obtain⟨W1,hW1,F1⟩:=dR (((((Fr.nil w).a w.heap.size (aV r s1 s2 s3 s4 s5 s6 s7) 28).a (w.heap.size+1) (dI t1 t2 t3 t4) 32).a (w.heap.size+2) [.bool false,.slice none 0 0,.bool false,.slice none 0 0] 42).a (w.heap.size+3) [.int .i64 0] 35);have o1:=aW F1;have F:=Hd F1;obtain⟨A5,q5,c5⟩:=s5;have h5:Sl aJ w M A5 q5 c5 r.rounds:=hr.rounds;have hi5:i<q5:=by rw[<-h5.len];exact(List.getElem?_eq_some_iff.1 hx).1
 have JC:=h5.small;obtain⟨b5,o5,-,-,-,Zm,-⟩:=h5.iw hx;subst Zm;clear h5;have HC:=Hd (kD (i:=(i:Int)) (hr.go F1.bl) (hc.go F1.bl) hg (tab_below ht F1.bl) (hM.le F1.bl.size));have H:=oK hr hc hg hw hM;have HX:=Hd hx;have HP:=Hd hp;clear F1 hr hc hg hw hM ht hx hp;have HMI:=Hd hm;clear hm;refine qj func11 rfl ntmps11 ?_
 gi_wp2_with (first
  |(have g:=G2.out;clear g;have X:=Ip (r:=r) (s1:=s1) (s2:=s2) (s3:=s3) (s4:=s4) (s5:=⟨some ⟨b5,o5,none⟩,q5,c5⟩) (s6:=s6) (s7:=s7) (i:=i) (H.out.2.1.go F.out.bl) HMI.out (fun l hl=>Nat.le_trans (H.out.2.2.2.1.mark l hl) (by omega));refine Cl 33 X ?_;clear X;rintro e w4 ⟨rfl,hb4⟩;have FO:=F.out.go hb4;replace F:=Hd FO;clear FO hb4)
  |(have g:=G1.out;clear g;refine Cl 32 (rP _) ?_;rintro e w2' ⟨rfl,rfl⟩;obtain⟨b3,ZU,D,m3,e3,eA,⟨-,-,-,-,y4,-⟩,⟨y6,y7,y8,y9,Qu⟩,-,-,hyi,hys⟩:=(H.out.1.rounds.go F.out.bl).iw HX.out;cases eA;rw[HP.out]at y4;obtain⟨w3,hw3,F3⟩:=dR (F.out.a w2.heap.size (pY r s1 s2 s3 s4 ⟨some ⟨b5,o5,none⟩,q5,c5⟩ s6 s7 i t1 t2 t3 t4) 78);have o3:=aW F3;replace F:=Hd F3;clear F3;have G2:=Hd trivial)
  |(refine Cl 15 HC.out ?_;rintro e w2 ⟨rfl,hb2⟩;have FO:=F.out.go hb2;have hk2:w.heap.size+3<w2.heap.size:=FO.mJ 3;have o2:=aW FO;replace F:=Hd FO;have G1:=Hd trivial;clear FO hb2)
  |fail)
 have hbl:=F.out.bl;have c3:=F.out.aQ 3 0;have f3:=F.out.zN 3 0;have d0:=F.out.aQ 2 0;have d1:=F.out.aQ 2 1;have d2:=F.out.aQ 2 2;have d3:=F.out.aQ 2 3;try clear o1
 try clear o2
 try clear o3
 refine leavesIn_cons (f:=31) (args:=#[.pointer (some ⟨w.heap.size+1+1+1,0,none⟩)]) (by simp) (by simp) (by simp[go_sem]) (fun _ _=>trivial) ?_;refine(tZ ⟨w.heap.size+1+1+1,0,none⟩ 160 0 [] _ c3 f3).mono ?_;rintro e u' w'' ⟨rfl,rfl,rfl⟩;refine⟨.tuple #[zQ,.int .i64 160],?_,rfl,hbl.setCell (p:=⟨w.heap.size+1+1+1,0,none⟩) (by simp;omega) _⟩;simp[results,results11,go_sem,c3,d0,d1,d2,d3]
theorem Nj(hr:dG w M r s1 s2 s3 s4 s5 s6 s7)(hc:jE w M c t1 t2 t3 t4)(hg:f_ r i c)(hw:yI r c)(hx:r.rounds[i]?=some x)(hp:x.2.2.2.2.1=false)(hm:eY c.marks=0)(ht:Tab w)(hM:b_ M w):
 Calls prog 11 #[.agg (aV r s1 s2 s3 s4 s5 s6 s7).toArray,.int .i64 i,.agg (dI t1 t2 t3 t4).toArray] w fun e w'=>∃u,e=.returned (.tuple #[u,.int .i64 0])/\QW w' M u (rG (kW r c) (au x))/\Below w.heap.size w w':=by
 refine wid ?_;obtain⟨W1,hW1,F1⟩:=dR (((((Fr.nil w).a w.heap.size (aV r s1 s2 s3 s4 s5 s6 s7) 28).a (w.heap.size+1) (dI t1 t2 t3 t4) 32).a (w.heap.size+2) [.bool false,.slice none 0 0,.bool false,.slice none 0 0] 42).a (w.heap.size+3) [.int .i64 0] 35);have o1:=aW F1;have F:=Hd F1;obtain⟨A5,q5,c5⟩:=s5;have h5:Sl aJ w M A5 q5 c5 r.rounds:=hr.rounds;have hi5:i<q5:=by rw[<-h5.len];exact(List.getElem?_eq_some_iff.1 hx).1
 have JC:=h5.small;obtain⟨b5,o5,-,-,-,Zm,-⟩:=h5.iw hx;subst Zm;clear h5;have HC:=Hd (kD (i:=(i:Int)) (hr.go F1.bl) (hc.go F1.bl) hg (tab_below ht F1.bl) (hM.le F1.bl.size));have H:=oK hr hc hg hw hM;have HX:=Hd hx;have HP:=Hd hp;clear F1 hr hc hg hw hM ht hx hp;have HMI:=Hd hm;clear hm;refine qj func11 rfl ntmps11 ?_
 gi_wp2_with (first
  |(have g:=G2.out;clear g;have X:=M_ (r:=r) (s1:=s1) (s2:=s2) (s3:=s3) (s4:=s4) (s5:=⟨some ⟨b5,o5,none⟩,q5,c5⟩) (s6:=s6) (s7:=s7) (i:=i) (H.out.2.1.go F.out.bl) HMI.out (fun l hl=>Nat.le_trans (H.out.2.2.2.1.mark l hl) (by omega));refine Cl 33 X ?_;clear X;rintro e w4 ⟨rfl,hb4⟩;have FO:=F.out.go hb4;have o4:=aW FO;replace F:=Hd FO;clear FO hb4 o1 o2 o3)
  |(have g:=G1.out;clear g;refine Cl 32 (rP _) ?_;rintro e w2' ⟨rfl,rfl⟩;obtain⟨b3,ZU,D,m3,e3,eA,⟨-,-,-,-,y4,-⟩,⟨y6,y7,y8,y9,Qu⟩,-,-,hyi,hys⟩:=(H.out.1.rounds.go F.out.bl).iw HX.out;cases eA;rw[HP.out]at y4;obtain⟨w3,hw3,F3⟩:=dR (F.out.a w2.heap.size (pY r s1 s2 s3 s4 ⟨some ⟨b5,o5,none⟩,q5,c5⟩ s6 s7 i t1 t2 t3 t4) 78);have o3:=aW F3;replace F:=Hd F3;clear F3;have G2:=Hd trivial)
  |(refine Cl 15 HC.out ?_;rintro e w2 ⟨rfl,hb2⟩;have FO:=F.out.go hb2;have hk2:w.heap.size+3<w2.heap.size:=FO.mJ 3;have o2:=aW FO;replace F:=Hd FO;have G1:=Hd trivial;clear FO hb2)
  |fail)
 clear y4 y6 y7 y8 y9 Qu hys hyi;obtain⟨b3,ZU,D,m3,e3,eA,-,⟨y6,y7,y8,y9,Qu⟩,-,-,hyi,hys⟩:=(H.out.1.rounds.go F.out.bl).iw HX.out;cases eA;have v6:=ah y6;have v7:=ah y7;have v8:=ah y8;have v9:=ah y9;have v10:=ah Qu;have z5:=ah (F.out.aQ 0 5);have k0:=ah (F.out.aQ 4 0);have k1:=ah (F.out.aQ 4 1);have k2:=ah (F.out.aQ 4 2);have k3:=ah (F.out.aQ 4 3);have k4:=ah (F.out.aQ 4 4);have k5:=ah (F.out.aQ 4 5);have k6:=ah (F.out.aQ 4 6);have k7:=ah (F.out.aQ 4 7);have k8:=ah (F.out.aQ 4 8);have k9:=ah (F.out.aQ 4 9);have k10:=ah (F.out.aQ 4 10);have k11:=ah (F.out.aQ 4 11);have k12:=ah (F.out.aQ 4 12);have k13:=ah (F.out.aQ 4 13);have HSX:=Hd2 hyi hys;clear y6 y7 y8 y9 Qu hyi hys o4;refine iF [] 9 2 [0,1,2,3,4,5,6,7,8] (by kernel_rfl) (by kernel_rfl) rfl ?_;refine eH ?_;refine aH fun K hK=>aA rfl rfl wy fun K' hK'=>?_;gi_wp2;refine Cl 36 (TS w4.drew) ?_;rintro e w5 ⟨n,rfl,mv,p1,p2,hb5⟩;have hb45:=(Below.refl w4.heap.size w4).drew.trans hb5;have F5:=F.out.go hb45;have hge:∀k,k∈ [w.heap.size+2,w.heap.size+3]->w.heap.size<=k/\k<w5.heap.size:=fun k hk=>by simp only[List.mem_cons,List.not_mem_nil,or_false]at hk;have h1:=F5.mJ 2;have h2:=F5.mJ 3;rcases hk with rfl|rfl<;>omega
 have V5:Zk w5 ([w.heap.size+2,w.heap.size+3]++M) r s1 s2 s3 s4 ⟨some ⟨b5,o5,none⟩,q5,c5⟩ s6 s7 c t1 t2 t3 t4 w4.drew n:=⟨(H.out.1.moreL _ fun k hk=>(hge k hk).1).go F5.bl,(H.out.2.1.moreL _ fun k hk=>(hge k hk).1).go F5.bl,mv,p1,p2,fun q hq=>(List.mem_append.1 hq).elim (fun hq=>(hge q hq).2) (fun hq=>H.out.2.2.2.2.le F5.bl.size q hq)⟩;obtain⟨b3,ZU,D',m3',e3',eA,-,⟨-,-,-,-,Qu⟩,-,-,-,Xw⟩:=((H.out.1.moreL [w.heap.size+2,w.heap.size+3] fun k hk=>(hge k hk).1).rounds.go F5.bl).iw HX.out;cases eA;have eD:=(hb5.cell (p:=⟨b5,o5+i*13+10,none⟩) (World.block_lt_of_cell? w4.drew _ (v10 w4.drew (Keeps.refl _ _)))).trans (v10 w4.drew (Keeps.refl _ _));rw[Qu]at eD;cases eD;have HV:=Hd (Ua H.out.2.2.1 H.out.2.2.2.1 HMI.out (au x) (H.out.2.2.2.1.parts x (List.mem_of_getElem? HX.out)) (pt_ok H.out.2.2.1.1 HX.out HP.out) V5 HSX.out.1 Xw);replace F:=Hd F5;refine hK' _ _ ⟨?_,hK _ _ ?_⟩;clear hK' K' hK K;·exact Keeps.of_below hb5 _
 clear hb5 mv p1 p2 hb45 F5 hge V5 Xw Qu;refine lit ?_;refine eH ?_;refine aH fun K hK=>aA rfl rfl wy fun K' hK'=>?_;gi_wp2;refine Cl 35 HV.out ?_;rintro e w6 ⟨u6,rfl,z2,hb6⟩;obtain⟨p2,q2,A2,n2,c2,B2,m2,d2,rfl,qc⟩:=QC.of z2;have G:=Hd2 (F.out.go hb6) z2;refine hK' _ _ ⟨?_,hK _ _ ?_⟩;clear hK' K' hK K;·exact Keeps.of_below hb6 _
 clear hb6 qc z2;refine lit ?_;refine aK ?_;have o6:=aW G.out.1;refine jW fun K hK K' hK'=>?_;gi_wp2;refine jW fun K hK K' hK'=>?_;gi_wp2;refine tail_nil _ ?_;gi_wp2;obtain⟨wF,hwF,t0,t1,t2,t3,t5,hQ,bF⟩:=WM (M:=M) (G.out.1.aQ 2 0) (G.out.1.aQ 2 1) (G.out.1.aQ 2 2) (G.out.1.aQ 2 3) (G.out.1.aQ 3 0) G.out.2 (fun k hk=>by simp[hk]) (by simp) (by simp) (by omega) G.out.1.bl (by omega) (by omega);rw[hwF];clear o6;refine leavesIn_cons (f:=31) (args:=#[.pointer (some ⟨w.heap.size+1+1+1,0,none⟩)]) (by simp) (by simp) (by simp[go_sem]) (fun _ _=>trivial) ?_;refine(rQ ⟨w.heap.size+1+1+1,0,none⟩ _).mono ?_;rintro e u' w'' ⟨rfl,rfl,rfl⟩;refine⟨.tuple #[.agg #[.bool p2,.slice A2 n2 c2,.bool q2,.slice B2 m2 d2],.int .i64 0],?_,_,rfl,hQ,bF⟩;simp[results,results11,go_sem,t0,t1,t2,t3,t5]
end
end
end Go.Proofs.YtlcgbfkdnmdigaaGreatDoor
