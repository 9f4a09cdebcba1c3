/- Lemmas. -/
import Derived.Test.YtfdmnogfflcllaaGreatDoorM22
set_option linter.unusedVariables false
set_option linter.unusedSimpArgs false
set_option maxRecDepth 100000
set_option maxHeartbeats 20000000
namespace Go.Proofs.YtfdmnogfflcllaaGreatDoor
open Go.Proofs.Tryz Go.RowKit Go.Shelf
variable {M:List Nat}{A:Option Addr}{n c m d:Nat}{w:World}{r:aS}
section
attribute [local go_sem] cK
def Dj(r:aS)(x:aJ):Prop:=(1<=x.2.1/\x.2.1<=256)/\(1<=x.2.2.1/\x.2.2.1<=4096)/\(1<=x.2.2.2.1/\x.2.2.2.1<=3)/\(∀c,c∈r.aT->c.2.2.2.2.2.1<(x.2.1+1).tdiv 2)/\(x.2.2.2.2.1=true->(au x).kind=0/\(au x).name.toList= []/\(au x).n=0/\(au x).d=0/\(au x).l= [])/\(x.2.2.2.2.1=false->∀y,y∈iZ (au x)->pX y)
structure F15(r:aS):Prop where
 c0:r.aT≠ []
 r0:r.rounds≠ []
 aT:∀c,c∈r.aT->rC c
 bonus:∀c,c∈r.bonus->mQ c
 malus:∀c,c∈r.malus->mQ c
 prizes:pW 1099511627776 r.prizes
 points:pW 1099511627776 r.points
 best:0<=r.best/\r.best<=64
 bp:r.best=0↔r.points= []
 ties:∀t,t∈r.ties->t.2≠ []/\∀k,k∈t.2->sZ k
 rounds:∀x,x∈r.rounds->Dj r x
theorem RD{l:List bK}(hx:Sl bK w M A n c l)(h:∀k,k∈l->sZ k):
 CB 165 #[.slice A n c,.func (.func 212) #[] #[]] (.bool true) w:=
 Qh (gf:=212) (caps:=#[]) (fun _ W=>Below w w W) (eK (P:=prog) func212 oF rfl) hx pd (fun _ W W' a b=>a.trans (b.mono a.size)) (fun _ W a=>a_ a _) (fun k x W cs hk hr hI=>by obtain⟨rfl,-⟩:=rd_key hr;exact(Vg x (h x (aR hk)) W).mono (fun e w' a=>⟨a.1,hI.trans (a.2.mono hI.size)⟩))
theorem Dk{l:List bW}(hx:Sl bW w M A n c l)(h:∀k,k∈l->mQ k):
 CB 206 #[.slice A n c,.func (.func 207) #[] #[]] (.bool true) w:=
 Vf (gf:=207) (caps:=#[]) (fun _ W=>Below w w W) (eK (P:=prog) func207 oF rfl) hx pd (fun _ W W' a b=>a.trans (b.mono a.size)) (fun _ W a=>a_ a _) (fun k x W cs hk hr hI=>by obtain⟨rfl,-⟩:=aaJ hr;exact(Ry x (h x (aR hk)) W).mono (fun e w' a=>⟨a.1,hI.trans (a.2.mono hI.size)⟩))
theorem N9{l:List bT}(hx:Sl bT w M A n c l)(h:∀k,k∈l->rC k):
 CB 204 #[.slice A n c,.func (.func 205) #[] #[]] (.bool true) w:=
 Di (gf:=205) (caps:=#[]) (fun _ W=>Below w w W) (eK (P:=prog) func205 oF rfl) hx pd (fun _ W W' a b=>a.trans (b.mono a.size)) (fun _ W a=>a_ a _) (fun k x W cs hk hr hI=>by obtain⟨rfl,-⟩:=lT hr;exact(Rx x (h x (aR hk)) W).mono (fun e w' a=>⟨a.1,hI.trans (a.2.mono hI.size)⟩))
theorem Vj{B:Option Addr}{x:dA}(hs:Sl bK w M B m d x.2)(h:x.2≠ []/\∀k,k∈x.2->sZ k):
 CB 211 #[.agg #[.string x.1,.slice B m d]] (.bool true) w:=by
 refine wid ?_;obtain⟨W1,y,F1⟩:=dR ((Fr.nil w).a w [.string x.1,.slice B m d] 142);have H:=fB (RD (hs.go F1.bl) h.2) F1.bl (show 0<m by have:=hs.len;have:=e_.2 h.1;omega);have g:=H.v;refine op1 F1 ?_;intros;clear F1 hs h;refine ent func211 rfl ntmps211 ?_
 gi_wp2_with (first
  |(refine Cl 165 H.a ?_;rintro e i ⟨rfl,f⟩;have HB:=Hd (H.b.trans (f.mono H.b.size));clear f)
  |fail)
 go_ret;exact⟨rfl,HB.out⟩
theorem GY{b:Nat}{c:bT}{p:Int}(hp:w.cell? ⟨b,1,none⟩=some (.int .i64 p))(h1:1<=p/\p<=256)(h:c.2.2.2.2.2.1<(p+1).tdiv 2):
 CB 215 #[.agg #[.string c.1,.int .i64 c.2.1,.int .i64 c.2.2.1,.int .i64 c.2.2.2.1,.int .i64 c.2.2.2.2.1,.int .i64 c.2.2.2.2.2.1,.bool c.2.2.2.2.2.2],.pointer (some ⟨b,0,none⟩)] (.bool true) w:=by
 refine wid ?_;obtain⟨W1,y,F1⟩:=dR ((Fr.nil w).a w [.string c.1,.int .i64 c.2.1,.int .i64 c.2.2.1,.int .i64 c.2.2.2.1,.int .i64 c.2.2.2.2.1,.int .i64 c.2.2.2.2.2.1,.bool c.2.2.2.2.2.2] 59);have f:=(F1.bl.cell (p:=⟨b,1,none⟩) (bu w _ hp)).trans hp;have HB:=Hd F1.bl;have g:IntKind.i64.wrap (p+1)=p+1:=by rw[bR];omega
 have e:IntKind.i64.wrap ((p+1).tdiv 2)=(p+1).tdiv 2:=by rw[eB oE,bR];omega
 refine op1 F1 ?_;intros;clear F1 hp;refine ent func215 rfl ntmps215 ?_;gi_wp2;go_ret;exact⟨by simp[e,h],HB.out⟩
theorem Og{rb:Nat}{x:aJ}{D:Option Addr}(hs:Sl aU w M D m d (au x).l)(hi:i64 (au x).kind/\i64 (au x).n/\i64 (au x).d)(hc:w.cell? ⟨rb,1,none⟩=some (.slice A n c))(hx:Sl bT w M A n c r.aT)(h:Dj r x):
 Calls prog 214 #[.agg #[.string x.1,.int .i64 x.2.1,.int .i64 x.2.2.1,.int .i64 x.2.2.2.1,.bool x.2.2.2.2.1,.bool x.2.2.2.2.2.1,.int .i64 (au x).kind,.string (au x).name,.int .i64 (au x).n,.int .i64 (au x).d,.slice D m d,.string x.2.2.2.2.2.2.2.1,.int .i64 x.2.2.2.2.2.2.2.2],.pointer (some ⟨rb,0,none⟩)] w fun e w'=>e=.returned (.bool true)/\Below w w w':=by
 obtain⟨pl,I⟩:=aC x.2.2.2.2.1;rw[I];refine wid ?_;obtain⟨W1,ad,F1⟩:=dR ((Fr.nil w).a w [.string x.1,.int .i64 x.2.1,.int .i64 x.2.2.1,.int .i64 x.2.2.2.1,.bool pl,.bool x.2.2.2.2.2.1,.int .i64 (au x).kind,.string (au x).name,.int .i64 (au x).n,.int .i64 (au x).d,.slice D m d,.string x.2.2.2.2.2.2.2.1,.int .i64 x.2.2.2.2.2.2.2.2] 68);have HX:=h_ (hx.go F1.bl) ((F1.bl.cell (p:=⟨rb,1,none⟩) (bu w _ hc)).trans hc) (hs.go F1.bl) hs.len;have HF:=Hd F1;have H:=Hd h;have HI:=Hd hi;have V:=Hd I;refine op1 F1 ?_;intros;clear F1 hs hc hx h hi I;cases pl
 ·refine ent func214 rfl ntmps214 ?_
  gi_wp2_with (first
   |(refine Cl 216 (Rz (x:=au x) (N:=M) (w:=X) (by
       have Y:=HX.c.go U.out;have Z:=HI.out;generalize au x=e at Y Z |-;cases e;exact kH.of Z Y) (H.y V.out)) ?_
     rintro e w6 ⟨rfl,aa⟩;have ab:=Hd (F5.out.bl.trans (aa.mono F5.out.bl.size));clear aa)
   |(refine Cl 204 F.out ?_;rintro e E ⟨rfl,i⟩
     skip
     obtain⟨X,oM,B,q⟩:=fP (w:=E) ((F4.out.go i).a E [.int .i64 (au x).kind,.string (au x).name,.int .i64 (au x).n,.int .i64 (au x).d,.slice D m d] 66);have U:=Hd (j.out.trans ((i.trans (B.mono i.size)).mono j.out.size));have F5:=Hd q;have C:=F4.out.go i;refine op1 C ?_;intros;refine op1 q ?_;intros;clear i B C q)
   |(have g:=F3.out;clear g;refine Cl 209 (dM x.2.2.2.1 1 3 S) ?_;rintro e T ⟨rfl,hb4⟩;rw[cw H.out.2.2.1.1,cw H.out.2.2.1.2];have F4:=Hd (F3.out.go hb4);have j:=Hd (z.out.trans (hb4.mono z.out.size));have f:=F4.out;have k9:=(j.out.cell (p:=⟨rb,1,none⟩) (bu W1 _ HX.b)).trans HX.b;have F:=Hd (Di (gf:=215) (caps:=#[.pointer (some ⟨w,0,none⟩)]) (M:=M) (w:=T) (fun _ W=>Below T T W) (eK (P:=prog) func215 oF rfl) (HX.a.go j.out) pd (fun _ W W' a b=>a.trans (b.mono a.size)) (fun _ W a=>a_ a _) (fun k c W cs G J s=>by
        obtain⟨rfl,-⟩:=lT J;exact(GY (p:=x.2.1) ((F4.out.go s).aQ 0 1) H.a (H.d c (aR G))).mono (fun e w' a=>⟨a.1,s.trans (a.2.mono s.size)⟩)))
     refine op1 f ?_;intros;clear hb4 f)
   |(have g:=o.out;clear g;refine Cl 209 (dM x.2.2.1 1 4096 R) ?_;rintro e S ⟨rfl,u⟩;rw[cw H.out.2.1.1,cw H.out.2.1.2];have F3:=Hd (o.out.go u);have z:=Hd (v.out.trans (u.mono v.out.size));have f:=F3.out;refine op1 f ?_;intros;clear u f)
   |(refine Cl 209 (dM x.2.1 1 256 W1) ?_;rintro e R ⟨rfl,t⟩;rw[cw (H.out.1.1),cw (H.out.1.2)];have o:=Hd (HF.out.go t);have v:=Hd t;have f:=o.out;refine op1 f ?_;intros;clear t f)
   |fail)
  go_ret;exact⟨rfl,ab.out⟩
 ·obtain⟨K,L,O,Q,k4⟩:=H.e V.out;have ac:m=0:=by have:=HX.w;rw[k4]at this;simpa using this.symm
  subst ac;have HK:=h_ K L O Q;clear K L O Q k4;refine ent func214 rfl ntmps214 ?_
  gi_wp2_with (first
   |(refine Cl 204 F.out ?_;rintro e E ⟨rfl,i⟩;obtain⟨K,L,O,Q⟩:=HK.out;obtain⟨X,oM,B,q⟩:=fP (w:=E) ((F4.out.go i).a E [.int .i64 0,.string (au x).name,.int .i64 0,.int .i64 0,.slice D 0 d] 66);have U:=Hd (j.out.trans ((i.trans (B.mono i.size)).mono j.out.size));have F5:=Hd q;have C:=F4.out.go i;refine op1 C ?_;intros;refine op1 q ?_;intros;clear i B C q)
   |(have g:=F3.out;clear g;refine Cl 209 (dM x.2.2.2.1 1 3 S) ?_;rintro e T ⟨rfl,hb4⟩;rw[cw H.out.2.2.1.1,cw H.out.2.2.1.2];have F4:=Hd (F3.out.go hb4);have j:=Hd (z.out.trans (hb4.mono z.out.size));have f:=F4.out;have k9:=(j.out.cell (p:=⟨rb,1,none⟩) (bu W1 _ HX.b)).trans HX.b;have F:=Hd (Di (gf:=215) (caps:=#[.pointer (some ⟨w,0,none⟩)]) (M:=M) (w:=T) (fun _ W=>Below T T W) (eK (P:=prog) func215 oF rfl) (HX.a.go j.out) pd (fun _ W W' a b=>a.trans (b.mono a.size)) (fun _ W a=>a_ a _) (fun k c W cs G J s=>by
        obtain⟨rfl,-⟩:=lT J;exact(GY (p:=x.2.1) ((F4.out.go s).aQ 0 1) H.a (H.d c (aR G))).mono (fun e w' a=>⟨a.1,s.trans (a.2.mono s.size)⟩)))
     refine op1 f ?_;intros;clear hb4 f)
   |(have g:=o.out;clear g;refine Cl 209 (dM x.2.2.1 1 4096 R) ?_;rintro e S ⟨rfl,u⟩;rw[cw H.out.2.1.1,cw H.out.2.1.2];have F3:=Hd (o.out.go u);have z:=Hd (v.out.trans (u.mono v.out.size));have f:=F3.out;refine op1 f ?_;intros;clear u f)
   |(refine Cl 209 (dM x.2.1 1 256 W1) ?_;rintro e R ⟨rfl,t⟩;rw[cw (H.out.1.1),cw (H.out.1.2)];have o:=Hd (HF.out.go t);have v:=Hd t;have f:=o.out;refine op1 f ?_;intros;clear t f)
   |fail)
  go_ret;exact⟨rfl,F5.out.bl⟩
theorem KP{s1 s2 s3 s4 s5 s6 s7:dK}(hr:dG w M r s1 s2 s3 s4 s5 s6 s7)(h:F15 r):
 CB 162 #[.agg (aV r s1 s2 s3 s4 s5 s6 s7).toArray] (.bool true) w:=by
 refine wid ?_;obtain⟨W1,Z,F1⟩:=dR ((Fr.nil w).a w [.string r.name,.slice s1.A s1.n s1.c,.slice s2.A s2.n s2.c,.slice s3.A s3.n s3.c,.slice s4.A s4.n s4.c,.slice s5.A s5.n s5.c,.slice s6.A s6.n s6.c,.slice s7.A s7.n s7.c,.int .i64 r.best] 28);have K:=hr.go F1.bl;have HF:=Hd F1;have H:=Hd h;have i:=Hd K;have U:0<s1.n:=by have:=hr.aT.len;have:=e_.2 h.c0;omega
 have n5:0<s5.n:=by have:=hr.rounds.len;have:=e_.2 h.r0;omega
 have b1:((s1.n:Int)==0)=false:=oS;have X:((s5.n:Int)==0)=false:=oS;have Y:(r.best==0)=((s7.n:Int)==0):=by
  have J:=hr.points.len;by_cases hb:r.best=0
  ·have T:=h.bp.1 hb;have v:s7.n=0:=by rw[T]at J;simpa using J.symm
   simp[hb,v]
  have v:r.points≠ []:=fun e=>hb (h.bp.2 e);have:=e_.2 v;rw[cU.2 hb,cU.2 (show(s7.n:Int)≠0 by omega)]
 refine op1 F1 ?_;intros;clear hr K h F1 U n5;refine ent func162 rfl ntmps162 ?_
 gi_wp2_with (first
  |(refine Cl 213 (Ru (gf:=214) (caps:=#[.pointer (some ⟨w,0,none⟩)]) (M:=M) (fun _ W=>Below O O W) (eK (P:=prog) func214 oF rfl) (i.out.rounds.go j.out) pd (fun _ W R a b=>a.trans (b.mono a.size)) (fun _ W a=>a_ a _)
      (fun k x W cs z hr l=>by obtain⟨D,m,d,rfl,-,S,B⟩:=jg hr;have hb:=j.out.trans (l.mono j.out.size);exact(Og (M:=M) (r:=r) B S ((HF.out.go hb).aQ 0 1) (i.out.aT.go hb) (H.out.rounds x (aR z))).mono (fun e w' a=>⟨a.1,l.trans (a.2.mono l.size)⟩))) ?_
    rintro e aa ⟨rfl,L⟩;have Q:=Hd (j.out.trans (L.mono j.out.size));clear L)
  |(refine Cl 210 (Ye (gf:=211) (caps:=#[]) (M:=M) (fun _ W=>Below N N W) (eK (P:=prog) func211 oF rfl) (i.out.ties.go s.out) pd (fun _ W R a b=>a.trans (b.mono a.size)) (fun _ W a=>a_ a _)
      (fun k x W cs z hr l=>by obtain⟨D,m,d,rfl,B⟩:=vJ hr;exact(Vj B (H.out.ties x (aR z))).mono (fun e w' a=>⟨a.1,l.trans (a.2.mono l.size)⟩))) ?_
    rintro e O ⟨rfl,C⟩;have j:=Hd (s.out.trans (C.mono s.out.size));have f:=HF.out.go j.out;refine op1 f ?_;intros;clear C f)
  |(refine Cl 209 (dM r.best 0 64 V) ?_;rintro e N ⟨rfl,I⟩;rw[cw H.out.best.1,cw H.out.best.2];have s:=Hd (u.out.trans (I.mono u.out.size));have f:=HF.out.go s.out;refine op1 f ?_;intros;clear I f)
  |(have g:=p.out;clear g;refine Cl 208 (GU (i.out.points.go p.out) H.out.points) ?_;rintro e V ⟨rfl,G⟩;have u:=Hd (p.out.trans (G.mono p.out.size));have f:=HF.out.go u.out;refine op1 f ?_;intros;clear G f)
  |(refine Cl 208 (GU (i.out.prizes.go q.out) H.out.prizes) ?_;rintro e w6 ⟨rfl,F⟩;have p:=Hd (q.out.trans (F.mono q.out.size));have f:=HF.out.go p.out;refine op1 f ?_;intros;clear F f)
  |(have g:=o.out;clear g;refine Cl 206 (Dk (i.out.malus.go o.out) H.out.malus) ?_;rintro e w5 ⟨rfl,E⟩;have q:=Hd (o.out.trans (E.mono o.out.size));have f:=HF.out.go q.out;refine op1 f ?_;intros;clear E f)
  |(refine Cl 206 (Dk (i.out.bonus.go t.out) H.out.bonus) ?_;rintro e w4 ⟨rfl,hb4⟩;have o:=Hd (t.out.trans (hb4.mono t.out.size));have f:=HF.out.go o.out;refine op1 f ?_;intros;clear hb4 f)
  |(refine Cl 204 (N9 i.out.aT H.out.aT) ?_;rintro e w3 ⟨rfl,y⟩;have t:=Hd y;have f:=HF.out.go y;refine op1 f ?_;intros;clear y f)
  |fail)
 go_ret;exact⟨rfl,HF.out.bl.trans (Q.out.mono HF.out.bl.size)⟩
end
