/- Lemmas. -/
import Derived.Test.YtfdmnogfflcllaaGreatDoorM24
set_option linter.unusedVariables false
set_option linter.unusedSimpArgs false
set_option maxRecDepth 100000
set_option maxHeartbeats 20000000
namespace Go.Proofs.YtfdmnogfflcllaaGreatDoor
open Go.Proofs.Tryz Go.RowKit Go.Shelf
theorem ND{p:Prop}(h:p:=by show s5.n-(intOf (.int .i64 ((k:Int)+1))).toNat<s5.n-(intOf (.int .i64 (k:Int))).toNat;simp[intOf];omega):p:=h
variable {W w:World}{M:List Nat}{L i:Nat}{r:aS}{s1 s2 s3 s4 s5 s6 s7:dK}{rk:Nat→Nat}
section
attribute [local go_sem] cK
structure CkI(w W:World)(r:aS)(M:List Nat)(L n4:Nat):Prop where
 bl:Below w w W
 l:aZ W (w.heap.size+1) (.slice (some ⟨L,0,none⟩) n4 n4)
 e:aZ W (w.heap.size+2) (.int .i64 0)
 rows:Vo W M L n4 r
theorem zh.lt(h:zh W M L r i):L<W.heap.size:=by obtain⟨_,A,m,c,d,_⟩:=h;exact bu W _ d
theorem zh.go{W':World}(h:zh W M L r i)(hb:Below W W W'):zh W' M L r i:=h.keep (a_ hb M) (hb.block _ h.lt)
theorem CkI.go{w W W':World}{r:aS}{M:List Nat}{L n4:Nat}(h:CkI w W r M L n4)(k:Below W W W'):CkI w W' r M L n4:=⟨h.bl.trans (k.mono h.bl.size),h.l.block (k.block _ h.l.lt),h.e.block (k.block _ h.e.lt),fun i hi=>(h.rows i hi).go k⟩
structure Y5(W5 U:World)(Ds:List Nat)(ib k xb:Nat)(cs:List Value):Prop where
 bl:Below W5 W5 U
 ms:ig W5.heap.size U Ds
 i:aZ U ib (.int .i64 (k:Int))
 x:∀i u,cs[i]?=some u->U.cell? ⟨xb,i,none⟩=some u
theorem Y5.Jc{W5 U0:World}{Ds:List Nat}{ib k xb B:Nat}{cs:List Value}(h:Y5 W5 U0 Ds ib k xb cs)(hB:U0.heap.size<=B):jC B (fun U=>Y5 W5 U Ds ib k xb cs):=by intro W c d g O a;exact⟨kY (B:=B) (w:=W5) pc (cD h.bl.size hB) _ _ _ g.bl O a,ig.Jc (fun D b=>cf (h.ms.lt b) hB) _ _ _ g.ms O a,jV B _ _ _ _ _ g.i O a,vU B _ _ _ _ _ g.x O a⟩
theorem Y5.go{W5 W W':World}{Ds:List Nat}{ib k xb:Nat}{cs:List Value}(h:Y5 W5 W Ds ib k xb cs)(b:Below W W W'):Y5 W5 W' Ds ib k xb cs:=⟨h.bl.trans (b.mono h.bl.size),h.ms.go b,h.i.block (b.block _ h.i.lt),fun i u hu=>(b.cell (p:=⟨xb,i,none⟩) (bu W _ (h.x i u hu))).trans (h.x i u hu)⟩
def JG:List Nat:= [4,5,6,26,27,28,29,30,31,32,33,34,35,36,37,38,39,40,41,42,43,44,45,46,47,48,49,50,51,52,53,54,55,56,57]
theorem Pn:∀i,i∈JG->i<59:=oR
theorem Po(hr:dG w M r s1 s2 s3 s4 s5 s6 s7)(hg:ZH r)(hf:F15 r)(T:T15 r rk)(hl:∀i x,r.rounds[i]?=some x->backOk r i x)(ht:Tab w)(hM:b_ M w):
 Calls prog 117 #[.agg (aV r s1 s2 s3 s4 s5 s6 s7).toArray] w fun e w'=>∃L,e=.returned (.tuple #[.slice (some ⟨L,0,none⟩) s4.n s4.n,.int .i64 0])/\Vo w' M L s4.n r/\Below w w w':=by
 refine wid ?_;obtain⟨W1,a3,F1⟩:=dR ((((Fr.nil w).a w [.string r.name,.slice s1.A s1.n s1.c,.slice s2.A s2.n s2.c,.slice s3.A s3.n s3.c,.slice s4.A s4.n s4.c,.slice s5.A s5.n s5.c,.slice s6.A s6.n s6.c,.slice s7.A s7.n s7.c,.int .i64 r.best] 28).a (w+1) [.slice none 0 0] 161).a0 (w.heap.size+1+1) 32);have HF:=Hd F1;have HR:=Hd (And.intro (hr.go F1.bl) ((hr.more (b:=w+1) oE).go F1.bl));have HC:=Hd (RQ (hr.go F1.bl) hg (tab_below ht F1.bl) (hM.le F1.bl.size));have Ny:=Hd hf;have HL:=Hd hl;have HM:=Hd (F1.aiF hM (b:=w+1) (vs:= [.slice none 0 0]) oO);refine op1 F1 ?_;intros;clear F1 hr hg hf hl ht hM;refine sH func117 rfl ntmps117 ?_
 gi_wp2_with (first
  |(refine Cl 163 (Du (HR.u.go E.out) T (HM.out.le E.out.size)) ?_;rintro e w4 ⟨L,rfl,rows,hL,hb4⟩;have B4:=Hd2 (E.out.trans (hb4.mono E.out.size)) rows;obtain⟨g,CZ⟩:=aC (w4.setCell ⟨w+1,0,none⟩ (.slice (some ⟨L,0,none⟩) s4.n s4.n));have f:=HF.out.go B4.a;have N:KB (w.heap.size+1) w4 g:=by rw[<-CZ];exact KB.put (v:=.slice none 0 0) ⟨f.aQ 1 0,f.zN 1 0⟩
    have o:Fr w g [(w, [.string r.name,.slice s1.A s1.n s1.c,.slice s2.A s2.n s2.c,.slice s3.A s3.n s3.c,.slice s4.A s4.n s4.c,.slice s5.A s5.n s5.c,.slice s6.A s6.n s6.c,.slice s7.A s7.n s7.c,.int .i64 r.best]),(w+1+1, [.int .i64 0])]:=(f.only (fun x hx=>by
       rcases cB.1 hx with rfl|hx;·simp
       ·rw[bE]at hx;subst hx;simp)).kb N oE (fun c vs hx=>by
       rcases cB.1 hx with hx|hx;·cases hx;omega
       rw[bE]at hx;cases hx;omega)
    have v5:aZ g (w.heap.size+1) (.slice (some ⟨L,0,none⟩) s4.n s4.n):=by rw[<-CZ];exact aZ.put (v:=.slice none 0 0) ⟨f.aQ 1 0,f.zN 1 0⟩
    have I5:CkI w g r M L s4.n:=⟨o.bl,v5,⟨o.aQ 1 0,o.zN 1 0⟩,fun i V=>((rows i V).keep (N.k.mono oO) (N.k.block _ (rows i V).lt (by have:=f.mJ 1;have:=(HF.out.go E.out).mJ 1;simp;omega))).lessM (fun q hq=>bz _ hq)⟩;have z:=fB I5 ((HR.u.go B4.a).keep (N.k.mono oO)) o;have a9:=aN (o.aQ 1 0);have e5:=o.aQ 1 0;have e6:=o.zN 1 0;have e7:=o.aQ 0 5;have e8:=v5.1;have d8:=f.aQ 1 0;have d9:=f.zN 1 0;clear hb4 f rows o v5 N I5 hL)
  |(refine Cl 162 (KP (HR.a.go B2.out) Ny.out) ?_;rintro e w3 ⟨rfl,an⟩;have E:=Hd (B2.out.trans (an.mono B2.out.size));have f:=HF.out.go E.out;refine op1 f ?_;intros;clear an f)
  |(refine Cl 161 HC.out ?_;rintro e w2 ⟨rfl,ac⟩;have B2:=Hd ac;have f:=HF.out.go ac;have a8:=aN (f.aQ 2 0);refine op1 f ?_;intros;clear ac f)
  |fail)
 refine Pm JG 26 (fun i ds wr=>∃(k:Nat) (p:List Nat),k<=s5.n/\i=.int .i64 k/\ds=p.map mkD/\ig g.heap.size wr p/\Below g g wr) (fun i=>s5.n-(intOf i).toNat) oR (fun i V=>Pn i V) ⟨0, [],bO _,rfl,rfl,.nil _ _,bw _ _⟩ ?_;rintro us ds wr ⟨k,p,hk,ah,rfl,ag,I⟩ K hK;rw[ah]at hK;have HK:=Hd hK;clear hK;simp only[vC,JG,oc,List.foldl_nil,eE,fl,eQ,ah];clear ah;have HB:=Hd2 I ag;have a7:=z.b.rounds.small;by_cases ay:k<s5.n
 ·have aw:=z.b.rounds.len;obtain⟨x,ai⟩:=dW r.rounds k (by rw[aw];exact ay);have ao:=Hd (HL.out k x ai);obtain⟨b1,o1,D,m,d,hA,⟨p0,p1,p2,p3,p4,p5⟩,⟨p6,p7,p8,p9,p10⟩,⟨p11,p12⟩,⟨-,-,-,hi4⟩,af,hsx⟩:=(z.b.rounds.go I).iw ai;obtain⟨H,a2,dD,G1⟩:=fP (w:=wr) (((Fr.nil wr).a wr [.int .i64 (k:Int)] 3).a (wr+1) [.string x.1,.int .i64 x.2.1,.int .i64 x.2.2.1,.int .i64 x.2.2.2.1,.bool x.2.2.2.2.1,.bool x.2.2.2.2.2.1,.int .i64 (au x).kind,.string (au x).name,.int .i64 (au x).n,.int .i64 (au x).d,.slice D m d,.string x.2.2.2.2.2.2.2.1,.int .i64 x.2.2.2.2.2.2.2.2] 68);have HG:=fB G1 hsx af;refine op1 G1 ?_;intros;clear G1 hsx af dD I ag ai aw
  gi_wp2_with (first
   |(refine Cl 164 (Dh (au x) D m d _) ?_;rintro e C ⟨rfl,aE⟩;have aG:=Hd aE;clear aE)
   |fail)
  have hw:=aG.out;have hb4:Below H H C:=by rw[<-hw];exact bel
  have F4:Fr H C [(H, [.int .i64 (au x).kind,.string (au x).name,.int .i64 (au x).n,.int .i64 (au x).d,.slice D m d])]:=by rw[<-hw];exact(Fr.nil H).a H.heap.size _ _
  have S:=HG.a.go hb4;have aF:kH C ((w.heap.size+1)::M) (au x) [.int .i64 (au x).kind,.string (au x).name,.int .i64 (au x).n,.int .i64 (au x).d,.slice D m d]:=by have h7:=HG.v;have R:=((HG.b.go HG.a.bl).go hb4);generalize au x=e at h7 R |-;cases e;exact kH.of h7 R
  have ae:Below g g C:=HB.a.trans (S.bl.mono HB.a.size);have az:=HB.u.go (HG.a.bl.trans (hb4.mono HG.a.bl.size));have R0:Y5 g C p wr.heap.size k (wr.heap.size+1) [.string x.1,.int .i64 x.2.1,.int .i64 x.2.2.1,.int .i64 x.2.2.2.1,.bool x.2.2.2.2.1,.bool x.2.2.2.2.2.1,.int .i64 (au x).kind,.string (au x).name,.int .i64 (au x).n,.int .i64 (au x).d,.slice D m d,.string x.2.2.2.2.2.2.2.1,.int .i64 x.2.2.2.2.2.2.2.2]:=⟨ae,az,⟨S.aQ 0 0,S.zN 0 0⟩,S.nth 1⟩;have aD:=R0.Jc pc;have aj:=Hd az;refine m_ (M:= []) (w0:=C) rfl rfl trivial (eK func218 oF rfl) (xR (aF.less (M':= []) pf) (F4.nth 0) oO pf) (cF _ _) pf (fun v hv=>GX hv) (fun aX W=>Y5 g W p wr.heap.size k (wr.heap.size+1) [.string x.1,.int .i64 x.2.1,.int .i64 x.2.2.1,.int .i64 x.2.2.2.1,.bool x.2.2.2.2.1,.bool x.2.2.2.2.2.1,.int .i64 (au x).kind,.string (au x).name,.int .i64 (au x).n,.int .i64 (au x).d,.slice D m d,.string x.2.2.2.2.2.2.2.1,.int .i64 x.2.2.2.2.2.2.2.2]) (fun _ _=>False) (fun _=>aD) (fun _=>kX _ _) R0 ?round ?done ?stop;case stop=>rintro D j W J hf;exact hf.elim
  case round=>
   rintro l s v aX W Y hl a4 aB a5 aJ Q;obtain⟨ba,Y⟩:=Y;obtain⟨cs,ap,rfl⟩:=ev.1 (show v∈(valsE C (au x) [.int .i64 (au x).kind,.string (au x).name,.int .i64 (au x).n,.int .i64 (au x).d,.slice D m d]).map vS by rw[Y];simp);obtain⟨y,hy,Ve⟩:=KD (au x) aF ap;obtain⟨D1,m2,d2,rfl,af,aM⟩:=kH.sl Ve;have aW:=ao.a y hy;obtain⟨U1,aY,Z,G2⟩:=fP (w:=W) ((Fr.nil W).a W [.int .i64 y.kind,.string y.name,.int .i64 y.n,.int .i64 y.d,.slice D1 m2 d2] 66);have am:=Q.go Z;clear Y ap hy Ve aM aJ;gi_wp2;refine⟨aaD Z aB _,fun U=>Y5 g U p wr.heap.size k (wr.heap.size+1) [.string x.1,.int .i64 x.2.1,.int .i64 x.2.2.1,.int .i64 x.2.2.2.1,.bool x.2.2.2.2.1,.bool x.2.2.2.2.2.1,.int .i64 (au x).kind,.string (au x).name,.int .i64 (au x).n,.int .i64 (au x).d,.slice D m d,.string x.2.2.2.2.2.2.2.1,.int .i64 x.2.2.2.2.2.2.2.2]/\∀i u, [Value.int .i64 y.kind,.string y.name,.int .i64 y.n,.int .i64 y.d,.slice D1 m2 d2][i]?=some u->U.cell? ⟨W,i,none⟩=some u,aD.and (vU _ _ _),⟨am,G2.nth 0⟩,?_⟩;rintro U aU aA ⟨ab,Nr⟩;have u0:U.cell? ⟨W,0,none⟩=_:=Nr 0 _ rfl;have u2:U.cell? ⟨W,2,none⟩=_:=Nr 2 _ rfl;have u3:=ab.i.1;have al:=Hd ab;have Vh:s<=U.heap.size:=by rw[aA];exact cD aB Z.size
   clear ab Nr am Q Z G2 aU aA;by_cases o:y.kind=5;·have h6:=aW o;have h7:decide (y.n>=(k:Int))=false:=cE oE;have R:(y.kind==5)=true:=beq_iff_eq.2 o;gi_wp2;exact⟨aaD pd Vh _,al.out⟩
   ·have R:(y.kind==5)=false:=cU.2 o;gi_wp2;exact⟨aaD pd Vh _,al.out⟩
  case done=>
   rintro D2 W J Q aq;have hx:=Q.x;have a0:=hx 12 _ rfl;have t:=z.a.go Q.bl;have a1:=t.l.1;have G:=Hd2 Q t;have F:=Hd2 J aq;clear Q t hx J aq;by_cases ht:0<=x.2.2.2.2.2.2.2.2
   ·obtain⟨tn,aT,aP,av⟩:=ao.u ht;have aL:=z.b.ties.len;have aH:tn<s4.n:=oE;obtain⟨aI,A',m',c',a6,X⟩:=G.u.rows tn aH;obtain⟨lk,ax,ar⟩:∃lk,Sl bK W M A' m' c' lk/\∀q,q∈lk->Hg k q:=by
     rcases X with⟨rfl,rfl⟩|X;·exact⟨[],⟨rfl,bh _,by simp[jG],oE,.inl rfl⟩,fun q hq=>by cases hq⟩
     exact⟨_,X,av⟩
    have Ux:=Hd2 ax ar;have aO:decide ((tn:Int)>=0)=true:=cw oE;rw[aT]at a0;clear X ax ar av aP aL aI
    gi_wp2_with (first
     |(refine Cl 165 (Qh (gf:=166) (caps:=#[.pointer (some ⟨wr,0,none⟩)]) (M:=M) (fun _ U=>Below W W U) (eK (P:=prog) func166 oF rfl) Ux.a pd (fun _ A B a b=>a.trans (b.mono a.size)) (fun _ A a=>a_ a _)
         (fun j y U cs hj hr hI=>by obtain⟨rfl,-⟩:=rd_key hr;exact(Oh (aZ.block G.a.i (hI.block _ G.a.i.lt)) (Ux.u y (aR hj))).mono (fun e w' a=>⟨a.1,hI.trans (a.2.mono hI.size)⟩))) ?_
       rintro e w7 ⟨rfl,ad⟩;have ak:=Hd (G.a.go ad);have aa:=Hd2 F.a ((ad.block D2 (cS.1 F.u).1).trans F.u);clear ad)
     |fail)
    refine HK.out _ _ _ ?_ ⟨k+1,D2::p,oE,?_,rfl,ak.out.ms.add aa.u (cD ae.size aa.a) (fun h=>absurd (aj.out.lt h) (by have:=aa.a;omega)),ak.out.bl⟩ ?_;·rw[hA];kernel_rfl
    ·kernel_rfl
    exact ND
   ·have aO:decide (x.2.2.2.2.2.2.2.2>=0)=false:=cE ht
    gi_wp2_with (first
     |(refine⟨bq,?_⟩)
     |fail)
    refine HK.out _ _ _ ?_ ⟨k+1,D2::p,oE,?_,rfl,G.a.ms.add F.u (cD ae.size F.a) (fun h=>absurd (aj.out.lt h) (by have:=F.a;omega)),G.a.bl⟩ ?_;·rw[hA];kernel_rfl
    ·kernel_rfl
    exact ND
 ·have aK:k=s5.n:=oE;subst aK;clear ay hk;have t:=z.a.go I;have g1:=t.l.1;have g2:=t.l.2;have g3:=t.e.1;have g4:=t.e.2;have g5:=aN g1;have g6:=aN g3;clear t ag I;gi_wp2;refine Il (B:=g.heap.size) (fun W=>Below g g W) (fun W D h J _=>nV h J pc) (fun W h=>?_) p wr HB.a HB.u;have O:=z.a.go h;have j1:=O.l.1;have j2:=O.e.1;exact⟨.tuple #[.slice (some ⟨L,0,none⟩) s4.n s4.n,.int .i64 0],by simp[results,go_sem,j1,j2],L,rfl,O.rows,O.bl⟩
theorem Pq(hr:dG w M r s1 s2 s3 s4 s5 s6 s7)(hg:ZH r)(hf:F15 r)(T:T15 r rk)(hl:∀i x,r.rounds[i]?=some x->backOk r i x)(ht:Tab w)(hM:b_ M w):
 CB 66 #[.agg (aV r s1 s2 s3 s4 s5 s6 s7).toArray] (.int .i64 0) w:=by
 refine wid ?_;obtain⟨W1,y,F1⟩:=dR ((Fr.nil w).a w (aV r s1 s2 s3 s4 s5 s6 s7) 28);refine op1 F1 ?_;intros;have t:=Hd (Po (hr.go F1.bl) hg hf T hl (tab_below ht F1.bl) (hM.le F1.bl.size));have HF:=Hd F1;clear F1 hr hg hf T hl ht hM;refine ent func66 rfl ntmps66 ?_
 gi_wp2_with (first
  |(refine Cl 117 t.out ?_;rintro e h ⟨L,rfl,-,c⟩;have HB:=Hd (HF.out.bl.trans (c.mono HF.out.bl.size));clear c)
  |fail)
 go_ret;exact⟨rfl,HB.out⟩
end
