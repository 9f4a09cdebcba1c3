/- Lemmas and walks; no statement is proved here. -/
import Derived.Test.YtefnknhjlejalaaGreatDoorM23
set_option linter.unusedVariables false
set_option linter.unusedSimpArgs false
set_option maxRecDepth 20000
set_option maxHeartbeats 6000000
namespace Go.Proofs.YtefnknhjlejalaaGreatDoor
open Go.Proofs.Tryz Go.RowKit Go.Shelf
section
attribute [local go_sem] Oper.semAt_some
set_option maxRecDepth 100000 in
set_option maxHeartbeats 32000000 in
theorem Qp{M:List Nat}{A B:Option Addr}{n c m d:Nat}{p:List InsR}{ins:List Rt}{w:World}{fuel:Int}(h:ru w M A n c B m d p ins)(hfl:(n:Int)<=fuel)(hfi:i64 fuel):
 Calls prog 10 #[.slice A n c,.slice B m d,.int .i64 fuel] w fun e w'=>∃u,e=.returned (.tuple #[u,.int .i64 (fuel-n),.int .i64 0])/\QW w' M u (zJ p ins)/\Below w.heap.size w w':=by
 refine wid ?_;have hsp:=h.sp.small;have hsi:=h.si.small;have ace:=h.len;have hn1:=h.pos;have k1:IntKind.i64.wrap ((n:Int)-1)=((n-1:Nat):Int):=by rw[IntKind.wrap_i64];omega
 have kf:IntKind.i64.wrap (fuel-(n:Int))=fuel-(n:Int):=by rw[IntKind.wrap_i64];unfold i64 at hfi;omega
 have kl:¬fuel<(n:Int):=by omega
 have H:=Hd h;obtain⟨W1,hW1,F1⟩:=nam ((Fr.nil w).a4 w.heap.size 30);refine op1 F1 ?_;intros;have F:=Hd F1;clear h F1;refine ent func10 rfl ntmps10 ?_;gi_wp2_with (refine Cl 12 (vO (M:=M) _ n c p (m:Int) _ (H.out.bel.le F.out.bl.size) (H.out.sp.go F.out.bl)) ?_;rintro e w2 ⟨rfl,hb2⟩;rw[H.out.ce];have F2:=F.out.go hb2;refine op1 F2 ?_;intros;have G2:=Hd F2;clear hb2 F2)
 gi_loopw[10] (fun i wr=>∃k:Nat,k<=m/\i=.int .i64 k/\Hid (Fr w wr [(w.heap.size,zQ)])) (fun i _=>m-(intOf i).toNat);case atStart=>exact⟨0,Nat.zero_le _,rfl,G2.out⟩
 case round=>
  obtain⟨k,hk,rfl,hF⟩:=hrel;have hFo:=hF.out;refine op1 hFo ?_;intros;clear hFo;by_cases hlt:k<m
  ·obtain⟨z,hz⟩:=dW ins k (by rw[H.out.li];exact hlt);obtain⟨b,o,A1,n1,c1,A2,n2,c2,rfl,hc0,hc1,hc2,hc3,hs1,hs2⟩:=(H.out.si.go hF.out.bl).TY (k:=k) (p:=aG z.num) (l1:=ints (bG z.num)) (q:=aG z.den) (l2:=ints (bG z.den)) (by rw[List.getElem?_map,hz];rfl);have S:=Hd2 hs1 hs2;have hzo:z.ok:=by
    have:=(H.out.regs.sh (by omega)) z (List.mem_of_getElem? hz);exact this.1
   have HK:=Hd (show qM (dF ((aG z.num,ints (bG z.num)),(aG z.den,ints (bG z.den))))=0 by exact ae9);generalize aG z.num=p1 at*;generalize aG z.den=q1 at*;clear hs1 hs2 hz hzo
   gi_wp2_with (refine Cl 14 (MI (l1:=ints (bG z.num)) (l2:=ints (bG z.den)) (M:=M) (H.out.bel.le hF.out.bl.size) S.out.1 S.out.2) ?_;rintro e w2 ⟨rfl,hb2⟩;rw[HK.out];have G3:=Hd (hF.out.go hb2);clear hb2)
   exact⟨⟨k+1,by omega,by go_num,G3⟩,by simp[intOf];omega⟩
  ·have hkm:k=m:=by omega
   clear hk hlt;subst hkm;gi_wp2;gi_loopw[11,12] (fun v0 i wr=>∃(j:Nat) (v:Value),v=v0/\j<=n/\i=.int .i64 j/\Hid (Fr w wr [(w.heap.size,zQ)])/\Hid (Dy wr (w.heap.size::M) (w.heap.size+1) v j (jf ins [] (p.take j)))) (fun _ i _=>n-(intOf i).toNat);case atStart=>exact⟨0,_,rfl,Nat.zero_le _,rfl,hF,Hd (bD.nil _ _ _)⟩
   case round=>
    obtain⟨j,v,rfl,hj,rfl,hF2,hO⟩:=hrel;obtain⟨Av,cv,rfl,Ql⟩:=hO.out.slQ (by omega);have hfr:=hF2.out;refine op1 hfr ?_;intros;clear hfr;by_cases hlt:j<n
    ·obtain⟨x,hx⟩:=dW p j (by rw[H.out.lp];exact hlt);obtain⟨op,xa,xb,xc,xd,r⟩:=x;have hrk:=H.out.Hl hx;obtain⟨o,rfl,ho1,Uj⟩:=DW hrk.1;obtain⟨M0,hM0⟩:=aC (bP (.slice Av j cv)++(w.heap.size::M));have hMe:(bP (.slice Av j cv)++ [w.heap.size])++M=M0:=by rw[<-hM0];simp
     have hown:∀q,q∈bP (.slice Av j cv)->w.heap.size+1<=q/\q<wr.heap.size:=fun q hq=>hO.out.lt (bJ.1 hq);have hge:∀q,q∈bP (.slice Av j cv)++ [w.heap.size]->w.heap.size<=q:=fun q hq=>by exact aeX
     have Yq:w.heap.size<wr.heap.size:=hF2.out.mJ 0;have hMw:b_ (w.heap.size::M) wr:=(H.out.bel.le hF2.out.bl.size).cons Yq;have hbel:b_ M0 wr:=fun q hq=>by
      rw[<-hM0]at hq;rcases List.mem_append.1 hq with hq|hq;·exact(hown q hq).2
      exact hMw q hq
     have Qn:Sl InsR wr M0 A n c p:=by rw[<-hMe];exact(H.out.sp.moreL _ hge).go hF2.out.bl
     have Qo:qC wr M0 B k d ins:=by rw[<-hMe];exact((qC.of H.out.si).moreL _ hge).go hF2.out.bl
     rw[hM0]at Ql;obtain⟨b,o1,A1,n1,c1,A2,n2,c2,rfl,⟨g0,g1,g2,g3,g4⟩,⟨h5,h6,h7,h8⟩,hi64,s1,s2⟩:=Qn.insat hx;obtain⟨p5,EI⟩:=aC r.1.1;obtain⟨q5,hq5⟩:=aC r.2.1;rw[EI]at h5;rw[hq5]at h7;have XAH:=h_ hbel Qo Ql (show XC wr M0 r p5 q5 A1 n1 c1 A2 n2 c2 from⟨EI,hq5,s1,s2⟩);have HR:=fB hrk.1 hrk.2 (H.out.all hj);have MJ:=Hd5 hx hM0 hown Yq hMw;clear hx hrk hMe hown hge hbel Qn Qo Ql EI hq5 hM0 s1 s2 hi64 Yq hMw
     gi_wp2_with (first
      |(gi_at_builtin;refine wpListIn_plain rfl fun K hK'=>?_;refine aI _ _ _ rfl rfl rfl RUN.out (hK' _ _ ?_);clear hK' K)
      |(refine Cl 25 (KL (o:=o) XAH.out.1 XAH.out.2.1 XAH.out.2.2.1 XAH.out.2.2.2 HR.out.1 HR.out.2.1 HR.out.2.2) ?_;rintro e w2 ⟨u2,rfl,z2,hb2⟩;obtain⟨U9,U_,Va,n21,c21,Vb,m21,Vl,rfl,qc⟩:=QC.of z2;obtain⟨W3,hW3⟩:=aC (w2.alloc (.cells #[.bool U9,.slice Va n21 c21,.bool U_,.slice Vb m21 Vl] 30));have aaj:Below w2.heap.size w2 W3:=by rw[<-hW3];exact bel
        have hb3:Below wr.heap.size wr W3:=hb2.trans (aaj.mono hb2.size);have R3:gG W3 w2.heap.size [.bool U9,.slice Va n21 c21,.bool U_,.slice Vb m21 Vl] 30:=by rw[<-hW3];exact heap_alloc_new w2 _
        have v0:=R3.cell (k:=0) rfl;have v1:=R3.cell (k:=1) rfl;have v2:=R3.cell (k:=2) rfl;have v3:=R3.cell (k:=3) rfl;have abl:=hO.out.go hb3;have hq3:QC W3 (bP (.slice Av j cv)++(w.heap.size::M)) (rG ins (jf ins [] (p.take j)) ((o:Int),xa,xb,xc,xd,r)) U9 U_ Va n21 c21 Vb m21 Vl:=by rw[MJ.out.2.1];exact qc.go aaj
        obtain⟨v',wA,r1,r2,r3,-,-⟩:=Hf abl (by have:=MJ.out.2.2.2.1;have:=hb3.size;omega) (MJ.out.2.2.2.2.le hb3.size) hq3 (by omega);have FA:Fr w wA [(w.heap.size,zQ)]:=(hF2.out.go hb3).grown r3 (fun q hq=>by have h1:=(MJ.out.2.2.1 q (bJ.2 hq)).1;refine⟨by omega,fun b vs hm=>?_⟩;simp at hm;omega);have RUN:=Hd r1;have HF:=Hd (show Fr w wA [(w.heap.size,zQ)]/\Dy wA (w.heap.size::M) (w.heap.size+1) v' (j+1) (jf ins [] (p.take (j+1)))from⟨FA,by rw[H.out.step MJ.out.1];exact r2⟩);clear z2 hb2 aaj hb3 R3 abl hq3 r1 r2 r3 FA qc)
      |fail)
     exact⟨⟨j+1,_,rfl,by omega,by go_num,HF.out.1,HF.out.2⟩,by simp[intOf];omega⟩
    ·have hjn:j=n:=by omega
     clear hj hlt;subst hjn;obtain⟨kk,hkk⟩:=aC (j-1);have aai:kk<j:=by omega
     rw[hkk]at k1;have hres:=H.out.res;rw[hkk]at hres;obtain⟨b9,o9,p9,q9,A9,n9,c9,B9,m9,d9,rfl,⟨i0,i1,i2,i3⟩,jJ⟩:=Ql.at_ aai;rw[hres]at jJ;have hx:=fun i u hu=>hF2.out.at_ w.heap.size zQ (by simp) i u hu;have hls:∀q,q∈w.heap.size::M->q∈bP (.slice (some ⟨b9,o9,none⟩) j cv)++(w.heap.size::M):=fun q hq=>List.mem_append_right _ hq;obtain⟨wF,hwF,t0,t1,t2,t3,hQ,bF⟩:=nN (M:=M) (hx 0 _ rfl).1 (hx 1 _ rfl).1 (hx 2 _ rfl).1 (hx 3 _ rfl).1 (x:=zJ p ins) (jJ.num.sl.less hls) (jJ.den.sl.less hls) jJ.num.neg jJ.den.neg hF2.out.bl (Nat.le_refl _);have HW:=Iw t0 t1 t2 t3 hQ bF hwF;clear hwF hx hls jJ Ql hres hkk t0 t1 t2 t3 hQ bF;gi_wp2;rw[HW.out.2.2.2.2.2.2];exact⟨rfl,.tuple #[.agg #[.bool p9,.slice A9 n9 c9,.bool q9,.slice B9 m9 d9],.int .i64 (fuel-j),.int .i64 0],by simp[results,go_sem,HW.out.1,HW.out.2.1,HW.out.2.2.1,HW.out.2.2.2.1],_,rfl,HW.out.2.2.2.2.1,HW.out.2.2.2.2.2.1⟩
end
end Go.Proofs.YtefnknhjlejalaaGreatDoor
