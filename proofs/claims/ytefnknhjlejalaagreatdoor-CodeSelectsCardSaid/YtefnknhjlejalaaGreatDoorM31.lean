/- Lemmas and walks; no statement is proved here. -/
import Derived.Test.YtefnknhjlejalaaGreatDoorM30
set_option linter.unusedVariables false
set_option linter.unusedSimpArgs false
set_option maxRecDepth 20000
set_option maxHeartbeats 6000000
namespace Go.Proofs.YtefnknhjlejalaaGreatDoor
open Go.Proofs.Tryz Go.RowKit Go.Shelf
variable {M:List Nat}{A:Option Addr}{n c m d:Nat}{w:World}{r:aS}
section
attribute [local go_sem] Oper.semAt_some
def Dj(r:aS)(x:aJ):Prop:=(1<=x.2.1/\x.2.1<=256)/\(1<=x.2.2.1/\x.2.2.1<=4096)/\(1<=x.2.2.2.1/\x.2.2.2.1<=3)/\(∀c,c∈r.aT->c.2.2.2.2.2.1<(x.2.1+1).tdiv 2)/\(x.2.2.2.2.1=true->(au x).kind=0/\(au x).name.toList= []/\(au x).n=0/\(au x).d=0/\(au x).l= [])/\(x.2.2.2.2.1=false->∀y,y∈iZ (au x)->pX y)
structure F15(r:aS):Prop where
 c0:r.aT≠ []
 r0:r.rounds≠ []
 aT:∀c,c∈r.aT->rC c
 bonus:∀c,c∈r.bonus->mQ c
 malus:∀c,c∈r.malus->mQ c
 prizes:pW 1099511627776 r.prizes
 points:pW 1099511627776 r.points
 best:0<=r.best/\r.best<=64
 bp:r.best=0↔r.points= []
 ties:∀t,t∈r.ties->t.2≠ []/\∀k,k∈t.2->sZ k
 rounds:∀x,x∈r.rounds->Dj r x
theorem RD{l:List bK}(hx:Sl bK w M A n c l)(h:∀k,k∈l->sZ k):
 CB 101 #[.slice A n c,.func (.func 139) #[] #[]] (.bool true) w:=
 Qh (gf:=139) (caps:=#[]) (fun _ W=>Below w.heap.size w W) (enters_of (P:=prog) func139 (by kernel_rfl) rfl) hx (Below.refl _ _) (fun _ W W' a b=>a.trans (b.mono a.size)) (fun _ W a=>Keeps.of_below a _) (fun k x W cs hk hr hI=>by obtain⟨rfl,-⟩:=rd_key hr;exact(Vg x (h x (List.mem_of_getElem? hk)) W).mono (fun e w' a=>⟨a.1,hI.trans (a.2.mono hI.size)⟩))
theorem Dk{l:List bW}(hx:Sl bW w M A n c l)(h:∀k,k∈l->mQ k):
 CB 133 #[.slice A n c,.func (.func 134) #[] #[]] (.bool true) w:=
 Vf (gf:=134) (caps:=#[]) (fun _ W=>Below w.heap.size w W) (enters_of (P:=prog) func134 (by kernel_rfl) rfl) hx (Below.refl _ _) (fun _ W W' a b=>a.trans (b.mono a.size)) (fun _ W a=>Keeps.of_below a _) (fun k x W cs hk hr hI=>by obtain⟨rfl,-⟩:=oU hr;exact(Ry x (h x (List.mem_of_getElem? hk)) W).mono (fun e w' a=>⟨a.1,hI.trans (a.2.mono hI.size)⟩))
theorem N9{l:List bT}(hx:Sl bT w M A n c l)(h:∀k,k∈l->rC k):
 CB 131 #[.slice A n c,.func (.func 132) #[] #[]] (.bool true) w:=
 Di (gf:=132) (caps:=#[]) (fun _ W=>Below w.heap.size w W) (enters_of (P:=prog) func132 (by kernel_rfl) rfl) hx (Below.refl _ _) (fun _ W W' a b=>a.trans (b.mono a.size)) (fun _ W a=>Keeps.of_below a _) (fun k x W cs hk hr hI=>by obtain⟨rfl,-⟩:=lT hr;exact(Rx x (h x (List.mem_of_getElem? hk)) W).mono (fun e w' a=>⟨a.1,hI.trans (a.2.mono hI.size)⟩))
theorem Vj{B:Option Addr}{x:dA}(hs:Sl bK w M B m d x.2)(h:x.2≠ []/\∀k,k∈x.2->sZ k):
 CB 138 #[.agg #[.string x.1,.slice B m d]] (.bool true) w:=by
 refine wid ?_;obtain⟨W1,hW1,F1⟩:=nam ((Fr.nil w).a w.heap.size [.string x.1,.slice B m d] 169);have H:=fB (RD (hs.go F1.bl) h.2) F1.bl (show 0<m by have:=hs.len;have:=List.length_pos_iff.2 h.1;omega);have hm:=H.out.2.2;refine op1 F1 ?_;intros;clear F1 hs h;refine ent func138 rfl ntmps138 ?_
 gi_wp2_with (first
  |(refine Cl 101 H.out.1 ?_;rintro e w2 ⟨rfl,hb2⟩;have HB:=Hd (H.out.2.1.trans (hb2.mono H.out.2.1.size));clear hb2)
  |fail)
 go_ret;exact⟨rfl,HB.out⟩
theorem GY{b:Nat}{c:bT}{p:Int}(hp:w.cell? ⟨b,1,none⟩=some (.int .i64 p))(h1:1<=p/\p<=256)(h:c.2.2.2.2.2.1<(p+1).tdiv 2):
 CB 142 #[.agg #[.string c.1,.int .i64 c.2.1,.int .i64 c.2.2.1,.int .i64 c.2.2.2.1,.int .i64 c.2.2.2.2.1,.int .i64 c.2.2.2.2.2.1,.bool c.2.2.2.2.2.2],.pointer (some ⟨b,0,none⟩)] (.bool true) w:=by
 refine wid ?_;obtain⟨W1,hW1,F1⟩:=nam ((Fr.nil w).a w.heap.size [.string c.1,.int .i64 c.2.1,.int .i64 c.2.2.1,.int .i64 c.2.2.2.1,.int .i64 c.2.2.2.2.1,.int .i64 c.2.2.2.2.2.1,.bool c.2.2.2.2.2.2] 95);have hp1:=(F1.bl.cell (p:=⟨b,1,none⟩) (World.block_lt_of_cell? w _ hp)).trans hp;have HB:=Hd F1.bl;have n1:IntKind.i64.wrap (p+1)=p+1:=by rw[IntKind.wrap_i64];omega
 have n2:IntKind.i64.wrap ((p+1).tdiv 2)=(p+1).tdiv 2:=by rw[Int.tdiv_eq_ediv_of_nonneg (by omega),IntKind.wrap_i64];omega
 refine op1 F1 ?_;intros;clear F1 hp;refine ent func142 rfl ntmps142 ?_;gi_wp2;go_ret;exact⟨by simp[n2,h],HB.out⟩
theorem Og{rb:Nat}{x:aJ}{D:Option Addr}(hs:Sl aU w M D m d (au x).l)(hi:i64 (au x).kind/\i64 (au x).n/\i64 (au x).d)(hc:w.cell? ⟨rb,1,none⟩=some (.slice A n c))(hx:Sl bT w M A n c r.aT)(h:Dj r x):
 Calls prog 141 #[.agg #[.string x.1,.int .i64 x.2.1,.int .i64 x.2.2.1,.int .i64 x.2.2.2.1,.bool x.2.2.2.2.1,.bool x.2.2.2.2.2.1,.int .i64 (au x).kind,.string (au x).name,.int .i64 (au x).n,.int .i64 (au x).d,.slice D m d,.string x.2.2.2.2.2.2.2.1,.int .i64 x.2.2.2.2.2.2.2.2],.pointer (some ⟨rb,0,none⟩)] w fun e w'=>e=.returned (.bool true)/\Below w.heap.size w w':=by
 obtain⟨pl,hpl⟩:=aC x.2.2.2.2.1;rw[hpl];refine wid ?_;obtain⟨W1,hW1,F1⟩:=nam ((Fr.nil w).a w.heap.size [.string x.1,.int .i64 x.2.1,.int .i64 x.2.2.1,.int .i64 x.2.2.2.1,.bool pl,.bool x.2.2.2.2.2.1,.int .i64 (au x).kind,.string (au x).name,.int .i64 (au x).n,.int .i64 (au x).d,.slice D m d,.string x.2.2.2.2.2.2.2.1,.int .i64 x.2.2.2.2.2.2.2.2] 89);have HX:=h_ (hx.go F1.bl) ((F1.bl.cell (p:=⟨rb,1,none⟩) (World.block_lt_of_cell? w _ hc)).trans hc) (hs.go F1.bl) hs.len;have HF:=Hd F1;have H:=Hd h;have HI:=Hd hi;have HP:=Hd hpl;refine op1 F1 ?_;intros;clear F1 hs hc hx h hi hpl;cases pl
 ·refine ent func141 rfl ntmps141 ?_
  gi_wp2_with (first
   |(refine Cl 143 (Rz (x:=au x) (N:=M) (w:=V5) (by
       have h6:=HX.out.2.2.1.go B5.out;have h7:=HI.out;generalize au x=e at h6 h7 |-;cases e;exact kH.of h7 h6) (H.out.2.2.2.2.2 HP.out)) ?_
     rintro e w6 ⟨rfl,hb6⟩;have HB6:=Hd (F5.out.bl.trans (hb6.mono F5.out.bl.size));clear hb6)
   |(refine Cl 131 HT.out ?_;rintro e w5 ⟨rfl,hb5⟩
     skip
     obtain⟨V5,oM,Vs,G5⟩:=fP (w:=w5) ((F4.out.go hb5).a w5.heap.size [.int .i64 (au x).kind,.string (au x).name,.int .i64 (au x).n,.int .i64 (au x).d,.slice D m d] 87);have B5:=Hd (B4.out.trans ((hb5.trans (Vs.mono hb5.size)).mono B4.out.size));have F5:=Hd G5;have hf4:=F4.out.go hb5;refine op1 hf4 ?_;intros;refine op1 G5 ?_;intros;clear hb5 Vs hf4 G5)
   |(have g:=F3.out;clear g;refine Cl 136 (dM x.2.2.2.1 1 3 w3) ?_;rintro e w4 ⟨rfl,hb4⟩;rw[decide_eq_true H.out.2.2.1.1,decide_eq_true H.out.2.2.1.2];have F4:=Hd (F3.out.go hb4);have B4:=Hd (B3.out.trans (hb4.mono B3.out.size));have hfo:=F4.out;have k9:=(B4.out.cell (p:=⟨rb,1,none⟩) (World.block_lt_of_cell? W1 _ HX.out.2.1)).trans HX.out.2.1;have HT:=Hd (Di (gf:=142) (caps:=#[.pointer (some ⟨w.heap.size,0,none⟩)]) (M:=M) (w:=w4) (fun _ W=>Below w4.heap.size w4 W) (enters_of (P:=prog) func142 (by kernel_rfl) rfl) (HX.out.1.go B4.out) (Below.refl _ _) (fun _ W W' a b=>a.trans (b.mono a.size)) (fun _ W a=>Keeps.of_below a _) (fun k c W cs hk hr hI=>by
        obtain⟨rfl,-⟩:=lT hr;exact(GY (p:=x.2.1) ((F4.out.go hI).aQ 0 1) H.out.1 (H.out.2.2.2.1 c (List.mem_of_getElem? hk))).mono (fun e w' a=>⟨a.1,hI.trans (a.2.mono hI.size)⟩)))
     refine op1 hfo ?_;intros;clear hb4 hfo)
   |(have g:=F2.out;clear g;refine Cl 136 (dM x.2.2.1 1 4096 w2) ?_;rintro e w3 ⟨rfl,hb3⟩;rw[decide_eq_true H.out.2.1.1,decide_eq_true H.out.2.1.2];have F3:=Hd (F2.out.go hb3);have B3:=Hd (B2.out.trans (hb3.mono B2.out.size));have hfo:=F3.out;refine op1 hfo ?_;intros;clear hb3 hfo)
   |(refine Cl 136 (dM x.2.1 1 256 W1) ?_;rintro e w2 ⟨rfl,hb2⟩;rw[decide_eq_true (H.out.1.1),decide_eq_true (H.out.1.2)];have F2:=Hd (HF.out.go hb2);have B2:=Hd hb2;have hfo:=F2.out;refine op1 hfo ?_;intros;clear hb2 hfo)
   |fail)
  go_ret;exact⟨rfl,HB6.out⟩
 ·obtain⟨k0,k1,k2,k3,k4⟩:=H.out.2.2.2.2.1 HP.out;have hm0:m=0:=by have:=HX.out.2.2.2;rw[k4]at this;simpa using this.symm
  subst hm0;have HK:=h_ k0 k1 k2 k3;clear k0 k1 k2 k3 k4;refine ent func141 rfl ntmps141 ?_
  gi_wp2_with (first
   |(refine Cl 131 HT.out ?_;rintro e w5 ⟨rfl,hb5⟩;obtain⟨k0,k1,k2,k3⟩:=HK.out;obtain⟨V5,oM,Vs,G5⟩:=fP (w:=w5) ((F4.out.go hb5).a w5.heap.size [.int .i64 0,.string (au x).name,.int .i64 0,.int .i64 0,.slice D 0 d] 87);have B5:=Hd (B4.out.trans ((hb5.trans (Vs.mono hb5.size)).mono B4.out.size));have F5:=Hd G5;have hf4:=F4.out.go hb5;refine op1 hf4 ?_;intros;refine op1 G5 ?_;intros;clear hb5 Vs hf4 G5)
   |(have g:=F3.out;clear g;refine Cl 136 (dM x.2.2.2.1 1 3 w3) ?_;rintro e w4 ⟨rfl,hb4⟩;rw[decide_eq_true H.out.2.2.1.1,decide_eq_true H.out.2.2.1.2];have F4:=Hd (F3.out.go hb4);have B4:=Hd (B3.out.trans (hb4.mono B3.out.size));have hfo:=F4.out;have k9:=(B4.out.cell (p:=⟨rb,1,none⟩) (World.block_lt_of_cell? W1 _ HX.out.2.1)).trans HX.out.2.1;have HT:=Hd (Di (gf:=142) (caps:=#[.pointer (some ⟨w.heap.size,0,none⟩)]) (M:=M) (w:=w4) (fun _ W=>Below w4.heap.size w4 W) (enters_of (P:=prog) func142 (by kernel_rfl) rfl) (HX.out.1.go B4.out) (Below.refl _ _) (fun _ W W' a b=>a.trans (b.mono a.size)) (fun _ W a=>Keeps.of_below a _) (fun k c W cs hk hr hI=>by
        obtain⟨rfl,-⟩:=lT hr;exact(GY (p:=x.2.1) ((F4.out.go hI).aQ 0 1) H.out.1 (H.out.2.2.2.1 c (List.mem_of_getElem? hk))).mono (fun e w' a=>⟨a.1,hI.trans (a.2.mono hI.size)⟩)))
     refine op1 hfo ?_;intros;clear hb4 hfo)
   |(have g:=F2.out;clear g;refine Cl 136 (dM x.2.2.1 1 4096 w2) ?_;rintro e w3 ⟨rfl,hb3⟩;rw[decide_eq_true H.out.2.1.1,decide_eq_true H.out.2.1.2];have F3:=Hd (F2.out.go hb3);have B3:=Hd (B2.out.trans (hb3.mono B2.out.size));have hfo:=F3.out;refine op1 hfo ?_;intros;clear hb3 hfo)
   |(refine Cl 136 (dM x.2.1 1 256 W1) ?_;rintro e w2 ⟨rfl,hb2⟩;rw[decide_eq_true (H.out.1.1),decide_eq_true (H.out.1.2)];have F2:=Hd (HF.out.go hb2);have B2:=Hd hb2;have hfo:=F2.out;refine op1 hfo ?_;intros;clear hb2 hfo)
   |fail)
  go_ret;exact⟨rfl,F5.out.bl⟩
theorem KP{s1 s2 s3 s4 s5 s6 s7:dK}(hr:dG w M r s1 s2 s3 s4 s5 s6 s7)(h:F15 r):
 CB 98 #[.agg (aV r s1 s2 s3 s4 s5 s6 s7).toArray] (.bool true) w:=by
 refine wid ?_;obtain⟨W1,hW1,F1⟩:=nam ((Fr.nil w).a w.heap.size [.string r.name,.slice s1.A s1.n s1.c,.slice s2.A s2.n s2.c,.slice s3.A s3.n s3.c,.slice s4.A s4.n s4.c,.slice s5.A s5.n s5.c,.slice s6.A s6.n s6.c,.slice s7.A s7.n s7.c,.int .i64 r.best] 52);have hr1:=hr.go F1.bl;have HF:=Hd F1;have H:=Hd h;have HR:=Hd hr1;have n1:0<s1.n:=by have:=hr.aT.len;have:=List.length_pos_iff.2 h.c0;omega
 have n5:0<s5.n:=by have:=hr.rounds.len;have:=List.length_pos_iff.2 h.r0;omega
 have b1:((s1.n:Int)==0)=false:=by simp;omega
 have b5:((s5.n:Int)==0)=false:=by simp;omega
 have b7:(r.best==0)=((s7.n:Int)==0):=by
  have hl:=hr.points.len;by_cases hb:r.best=0
  ·have hp:=h.bp.1 hb;have h7:s7.n=0:=by rw[hp]at hl;simpa using hl.symm
   simp[hb,h7]
  have h7:r.points≠ []:=fun e=>hb (h.bp.2 e);have:=List.length_pos_iff.2 h7;rw[beq_eq_false_iff_ne.2 hb,beq_eq_false_iff_ne.2 (show(s7.n:Int)≠0 by omega)]
 refine op1 F1 ?_;intros;clear hr hr1 h F1 n1 n5;refine ent func98 rfl ntmps98 ?_
 gi_wp2_with (first
  |(refine Cl 140 (Ru (gf:=141) (caps:=#[.pointer (some ⟨w.heap.size,0,none⟩)]) (M:=M) (fun _ W=>Below w9.heap.size w9 W) (enters_of (P:=prog) func141 (by kernel_rfl) rfl) (HR.out.rounds.go B9.out) (Below.refl _ _) (fun _ W W' a b=>a.trans (b.mono a.size)) (fun _ W a=>Keeps.of_below a _)
      (fun k x W cs hk hr hI=>by obtain⟨D,m,d,rfl,-,hi,hsx⟩:=jg hr;have hb:=B9.out.trans (hI.mono B9.out.size);exact(Og (M:=M) (r:=r) hsx hi ((HF.out.go hb).aQ 0 1) (HR.out.aT.go hb) (H.out.rounds x (List.mem_of_getElem? hk))).mono (fun e w' a=>⟨a.1,hI.trans (a.2.mono hI.size)⟩))) ?_
    rintro e w10 ⟨rfl,uU⟩;have B10:=Hd (B9.out.trans (uU.mono B9.out.size));clear uU)
  |(refine Cl 137 (Ye (gf:=138) (caps:=#[]) (M:=M) (fun _ W=>Below w8.heap.size w8 W) (enters_of (P:=prog) func138 (by kernel_rfl) rfl) (HR.out.ties.go B8.out) (Below.refl _ _) (fun _ W W' a b=>a.trans (b.mono a.size)) (fun _ W a=>Keeps.of_below a _)
      (fun k x W cs hk hr hI=>by obtain⟨D,m,d,rfl,hsx⟩:=vJ hr;exact(Vj hsx (H.out.ties x (List.mem_of_getElem? hk))).mono (fun e w' a=>⟨a.1,hI.trans (a.2.mono hI.size)⟩))) ?_
    rintro e w9 ⟨rfl,Ns⟩;have B9:=Hd (B8.out.trans (Ns.mono B8.out.size));have hfo:=HF.out.go B9.out;refine op1 hfo ?_;intros;clear Ns hfo)
  |(refine Cl 136 (dM r.best 0 64 w7) ?_;rintro e w8 ⟨rfl,hb8⟩;rw[decide_eq_true H.out.best.1,decide_eq_true H.out.best.2];have B8:=Hd (B7.out.trans (hb8.mono B7.out.size));have hfo:=HF.out.go B8.out;refine op1 hfo ?_;intros;clear hb8 hfo)
  |(have g:=B6.out;clear g;refine Cl 135 (GU (HR.out.points.go B6.out) H.out.points) ?_;rintro e w7 ⟨rfl,hb7⟩;have B7:=Hd (B6.out.trans (hb7.mono B6.out.size));have hfo:=HF.out.go B7.out;refine op1 hfo ?_;intros;clear hb7 hfo)
  |(refine Cl 135 (GU (HR.out.prizes.go B5.out) H.out.prizes) ?_;rintro e w6 ⟨rfl,hb6⟩;have B6:=Hd (B5.out.trans (hb6.mono B5.out.size));have hfo:=HF.out.go B6.out;refine op1 hfo ?_;intros;clear hb6 hfo)
  |(have g:=B4.out;clear g;refine Cl 133 (Dk (HR.out.malus.go B4.out) H.out.malus) ?_;rintro e w5 ⟨rfl,hb5⟩;have B5:=Hd (B4.out.trans (hb5.mono B4.out.size));have hfo:=HF.out.go B5.out;refine op1 hfo ?_;intros;clear hb5 hfo)
  |(refine Cl 133 (Dk (HR.out.bonus.go B3.out) H.out.bonus) ?_;rintro e w4 ⟨rfl,hb4⟩;have B4:=Hd (B3.out.trans (hb4.mono B3.out.size));have hfo:=HF.out.go B4.out;refine op1 hfo ?_;intros;clear hb4 hfo)
  |(refine Cl 131 (N9 HR.out.aT H.out.aT) ?_;rintro e w3 ⟨rfl,hb3⟩;have B3:=Hd hb3;have hfo:=HF.out.go hb3;refine op1 hfo ?_;intros;clear hb3 hfo)
  |fail)
 go_ret;exact⟨rfl,HF.out.bl.trans (B10.out.mono HF.out.bl.size)⟩
end
end Go.Proofs.YtefnknhjlejalaaGreatDoor
