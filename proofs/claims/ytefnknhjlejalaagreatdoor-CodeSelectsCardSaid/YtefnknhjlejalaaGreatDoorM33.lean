/- Lemmas and walks; no statement is proved here. -/
import Derived.Test.YtefnknhjlejalaaGreatDoorM32
set_option linter.unusedVariables false
set_option linter.unusedSimpArgs false
set_option maxRecDepth 20000
set_option maxHeartbeats 6000000
namespace Go.Proofs.YtefnknhjlejalaaGreatDoor
open Go.Proofs.Tryz Go.RowKit Go.Shelf
theorem aeE{p:Prop}(h:p:=by show s5.n-(intOf (.int .i64 ((k:Int)+1))).toNat<s5.n-(intOf (.int .i64 (k:Int))).toNat;simp[intOf];omega):p:=h
variable {W w:World}{M:List Nat}{L i:Nat}{r:aS}{s1 s2 s3 s4 s5 s6 s7:dK}{rk:Nat→Nat}
section
attribute [local go_sem] Oper.semAt_some
structure CkI(w W:World)(r:aS)(M:List Nat)(L n4:Nat):Prop where
 bl:Below w.heap.size w W
 l:aZ W (w.heap.size+1) (.slice (some ⟨L,0,none⟩) n4 n4)
 e:aZ W (w.heap.size+2) (.int .i64 0)
 rows:Vo W M L n4 r
theorem zh.lt(h:zh W M L r i):L<W.heap.size:=by obtain⟨_,A,m,c,h2,_⟩:=h;exact World.block_lt_of_cell? W _ h2
theorem zh.go{W':World}(h:zh W M L r i)(hb:Below W.heap.size W W'):zh W' M L r i:=h.keep (Keeps.of_below hb M) (hb.block _ h.lt)
theorem CkI.go{w W W':World}{r:aS}{M:List Nat}{L n4:Nat}(h:CkI w W r M L n4)(k:Below W.heap.size W W'):CkI w W' r M L n4:=⟨h.bl.trans (k.mono h.bl.size),h.l.block (k.block _ h.l.lt),h.e.block (k.block _ h.e.lt),fun i hi=>(h.rows i hi).go k⟩
structure Y5(W5 U:World)(Ds:List Nat)(ib k xb:Nat)(cs:List Value):Prop where
 bl:Below W5.heap.size W5 U
 ms:ig W5.heap.size U Ds
 i:aZ U ib (.int .i64 (k:Int))
 x:∀i u,cs[i]?=some u->U.cell? ⟨xb,i,none⟩=some u
theorem Y5.Jc{W5 U0:World}{Ds:List Nat}{ib k xb B:Nat}{cs:List Value}(h:Y5 W5 U0 Ds ib k xb cs)(hB:U0.heap.size<=B):jC B (fun U=>Y5 W5 U Ds ib k xb cs):=by intro W W' row g hg hr;exact⟨kY (B:=B) (w:=W5) (Nat.le_refl _) (Nat.le_trans h.bl.size hB) _ _ _ g.bl hg hr,ig.Jc (fun D hD=>Nat.lt_of_lt_of_le (h.ms.lt hD) hB) _ _ _ g.ms hg hr,jV B _ _ _ _ _ g.i hg hr,vU B _ _ _ _ _ g.x hg hr⟩
theorem Y5.go{W5 W W':World}{Ds:List Nat}{ib k xb:Nat}{cs:List Value}(h:Y5 W5 W Ds ib k xb cs)(b:Below W.heap.size W W'):Y5 W5 W' Ds ib k xb cs:=⟨h.bl.trans (b.mono h.bl.size),h.ms.go b,h.i.block (b.block _ h.i.lt),fun i u hu=>(b.cell (p:=⟨xb,i,none⟩) (World.block_lt_of_cell? W _ (h.x i u hu))).trans (h.x i u hu)⟩
def JG:List Nat:= [4,5,6,26,27,28,29,30,31,32,33,34,35,36,37,38,39,40,41,42,43,44,45,46,47,48,49,50,51,52,53,54,55,56,57]
theorem Pn:∀i,i∈JG->i<59:=by decide
theorem Po(hr:dG w M r s1 s2 s3 s4 s5 s6 s7)(hg:ZH r)(hf:F15 r)(T:T15 r rk)(hl:∀i x,r.rounds[i]?=some x->backOk r i x)(ht:Tab w)(hM:b_ M w):
 Calls prog 65 #[.agg (aV r s1 s2 s3 s4 s5 s6 s7).toArray] w fun e w'=>∃L,e=.returned (.tuple #[.slice (some ⟨L,0,none⟩) s4.n s4.n,.int .i64 0])/\Vo w' M L s4.n r/\Below w.heap.size w w':=by
 refine wid ?_;obtain⟨W1,hW1,F1⟩:=nam ((((Fr.nil w).a w.heap.size [.string r.name,.slice s1.A s1.n s1.c,.slice s2.A s2.n s2.c,.slice s3.A s3.n s3.c,.slice s4.A s4.n s4.c,.slice s5.A s5.n s5.c,.slice s6.A s6.n s6.c,.slice s7.A s7.n s7.c,.int .i64 r.best] 52).a (w.heap.size+1) [.slice none 0 0] 108).a0 (w.heap.size+1+1) 31);have HF:=Hd F1;have HR:=Hd (And.intro (hr.go F1.bl) ((hr.more (b:=w.heap.size+1) (by omega)).go F1.bl));have HC:=Hd (RQ (hr.go F1.bl) hg (tab_below ht F1.bl) (hM.le F1.bl.size));have Ny:=Hd hf;have HL:=Hd hl;have HM:=Hd (F1.abx hM (b:=w.heap.size+1) (vs:= [.slice none 0 0]) (by simp));refine op1 F1 ?_;intros;clear F1 hr hg hf hl ht hM;refine sH func65 rfl ntmps65 ?_
 gi_wp2_with (first
  |(refine Cl 99 (Du (HR.out.2.go B3.out) T (HM.out.le B3.out.size)) ?_;rintro e w4 ⟨L,rfl,rows,hL,hb4⟩;have B4:=Hd2 (B3.out.trans (hb4.mono B3.out.size)) rows;obtain⟨W5,CZ⟩:=aC (w4.setCell ⟨w.heap.size+1,0,none⟩ (.slice (some ⟨L,0,none⟩) s4.n s4.n));have hfo:=HF.out.go B4.out.1;have k5:KB (w.heap.size+1) w4 W5:=by rw[<-CZ];exact KB.put (v:=.slice none 0 0) ⟨hfo.aQ 1 0,hfo.zN 1 0⟩
    have h5:Fr w W5 [(w.heap.size, [.string r.name,.slice s1.A s1.n s1.c,.slice s2.A s2.n s2.c,.slice s3.A s3.n s3.c,.slice s4.A s4.n s4.c,.slice s5.A s5.n s5.c,.slice s6.A s6.n s6.c,.slice s7.A s7.n s7.c,.int .i64 r.best]),(w.heap.size+1+1, [.int .i64 0])]:=(hfo.only (fun x hx=>by
       rcases List.mem_cons.1 hx with rfl|hx;·simp
       ·rw[List.mem_singleton]at hx;subst hx;simp)).kb k5 (by omega) (fun c vs hx=>by
       rcases List.mem_cons.1 hx with hx|hx;·cases hx;omega
       rw[List.mem_singleton]at hx;cases hx;omega)
    have v5:aZ W5 (w.heap.size+1) (.slice (some ⟨L,0,none⟩) s4.n s4.n):=by rw[<-CZ];exact aZ.put (v:=.slice none 0 0) ⟨hfo.aQ 1 0,hfo.zN 1 0⟩
    have I5:CkI w W5 r M L s4.n:=⟨h5.bl,v5,⟨h5.aQ 1 0,h5.zN 1 0⟩,fun i hi=>((rows i hi).keep (k5.k.mono (by simp)) (k5.k.block _ (rows i hi).lt (by have:=hfo.mJ 1;have:=(HF.out.go B3.out).mJ 1;simp;omega))).lessM (fun q hq=>List.mem_cons_of_mem _ hq)⟩;have HI:=fB I5 ((HR.out.2.go B4.out.1).keep (k5.k.mono (by simp))) h5;have pn5:=aN (h5.aQ 1 0);have e5:=h5.aQ 1 0;have e6:=h5.zN 1 0;have e7:=h5.aQ 0 5;have e8:=v5.1;have d8:=hfo.aQ 1 0;have d9:=hfo.zN 1 0;clear hb4 hfo rows h5 v5 k5 I5 hL)
  |(refine Cl 98 (KP (HR.out.1.go B2.out) Ny.out) ?_;rintro e w3 ⟨rfl,hb3⟩;have B3:=Hd (B2.out.trans (hb3.mono B2.out.size));have hfo:=HF.out.go B3.out;refine op1 hfo ?_;intros;clear hb3 hfo)
  |(refine Cl 97 HC.out ?_;rintro e w2 ⟨rfl,hb2⟩;have B2:=Hd hb2;have hfo:=HF.out.go hb2;have pn2:=aN (hfo.aQ 2 0);refine op1 hfo ?_;intros;clear hb2 hfo)
  |fail)
 refine Pm JG 26 (fun i ds wr=>∃(k:Nat) (Ds:List Nat),k<=s5.n/\i=.int .i64 k/\ds=Ds.map mkD/\ig W5.heap.size wr Ds/\Below W5.heap.size W5 wr) (fun i=>s5.n-(intOf i).toNat) (by decide) (fun i hi=>Pn i hi) ⟨0, [],Nat.zero_le _,rfl,rfl,.nil _ _,Below.refl _ _⟩ ?_;rintro us ds wr ⟨k,Ds,hk,hus,rfl,hmk,hB⟩ K hK;rw[hus]at hK;have HK:=Hd hK;clear hK;simp only[vC,JG,List.foldl_cons,List.foldl_nil,List.setIfInBounds_toArray,List.set_cons_succ,List.set_cons_zero,hus];clear hus;have HB:=Hd2 hB hmk;have hsm:=HI.out.2.1.rounds.small;by_cases hlt:k<s5.n
 ·have hlen:=HI.out.2.1.rounds.len;obtain⟨x,hxk⟩:=dW r.rounds k (by rw[hlen];exact hlt);have hback:=Hd (HL.out k x hxk);obtain⟨b1,o1,D,m,d,hA,⟨p0,p1,p2,p3,p4,p5⟩,⟨p6,p7,p8,p9,p10⟩,⟨p11,p12⟩,⟨-,-,-,hi4⟩,hi64,hsx⟩:=(HI.out.2.1.rounds.go hB).iw hxk;obtain⟨V1,hV1,dD,G1⟩:=fP (w:=wr) (((Fr.nil wr).a wr.heap.size [.int .i64 (k:Int)] 3).a (wr.heap.size+1) [.string x.1,.int .i64 x.2.1,.int .i64 x.2.2.1,.int .i64 x.2.2.2.1,.bool x.2.2.2.2.1,.bool x.2.2.2.2.2.1,.int .i64 (au x).kind,.string (au x).name,.int .i64 (au x).n,.int .i64 (au x).d,.slice D m d,.string x.2.2.2.2.2.2.2.1,.int .i64 x.2.2.2.2.2.2.2.2] 89);have HG:=fB G1 hsx hi64;refine op1 G1 ?_;intros;clear G1 hsx hi64 dD hB hmk hxk hlen
  gi_wp2_with (first
   |(refine Cl 100 (Dh (au x) D m d _) ?_;rintro e W4 ⟨rfl,hw4⟩;have HW4:=Hd hw4;clear hw4)
   |fail)
  have hw:=HW4.out;have hb4:Below V1.heap.size V1 W4:=by rw[<-hw];exact bel
  have F4:Fr V1 W4 [(V1.heap.size, [.int .i64 (au x).kind,.string (au x).name,.int .i64 (au x).n,.int .i64 (au x).d,.slice D m d])]:=by rw[<-hw];exact(Fr.nil V1).a V1.heap.size _ _
  have hG4:=HG.out.1.go hb4;have hx4:kH W4 ((w.heap.size+1)::M) (au x) [.int .i64 (au x).kind,.string (au x).name,.int .i64 (au x).n,.int .i64 (au x).d,.slice D m d]:=by have h7:=HG.out.2.2;have h8:=((HG.out.2.1.go HG.out.1.bl).go hb4);generalize au x=e at h7 h8 |-;cases e;exact kH.of h7 h8
  have hbw:Below W5.heap.size W5 W4:=HB.out.1.trans (hG4.bl.mono HB.out.1.size);have hm4:=HB.out.2.go (HG.out.1.bl.trans (hb4.mono HG.out.1.bl.size));have R0:Y5 W5 W4 Ds wr.heap.size k (wr.heap.size+1) [.string x.1,.int .i64 x.2.1,.int .i64 x.2.2.1,.int .i64 x.2.2.2.1,.bool x.2.2.2.2.1,.bool x.2.2.2.2.2.1,.int .i64 (au x).kind,.string (au x).name,.int .i64 (au x).n,.int .i64 (au x).d,.slice D m d,.string x.2.2.2.2.2.2.2.1,.int .i64 x.2.2.2.2.2.2.2.2]:=⟨hbw,hm4,⟨hG4.aQ 0 0,hG4.zN 0 0⟩,hG4.nth 1⟩;have hst:=R0.Jc (Nat.le_refl _);have HM4:=Hd hm4;refine m_ (M:= []) (w0:=W4) rfl rfl trivial (enters_of func145 (by kernel_rfl) rfl) (xR (hx4.less (M':= []) (fun k hk=>by cases hk)) (F4.nth 0) (by simp) (fun k hk=>by cases hk)) (Keeps.refl _ _) (fun k hk=>by cases hk) (fun v hv=>GX hv) (fun rest W=>Y5 W5 W Ds wr.heap.size k (wr.heap.size+1) [.string x.1,.int .i64 x.2.1,.int .i64 x.2.2.1,.int .i64 x.2.2.2.1,.bool x.2.2.2.2.1,.bool x.2.2.2.2.2.1,.int .i64 (au x).kind,.string (au x).name,.int .i64 (au x).n,.int .i64 (au x).d,.slice D m d,.string x.2.2.2.2.2.2.2.1,.int .i64 x.2.2.2.2.2.2.2.2]) (fun _ _=>False) (fun _=>hst) (fun _=>kX _ _) R0 ?round ?done ?stop;case stop=>rintro D j W hD hf;exact hf.elim
  case round=>
   rintro l s v rest W hpre hl hls hsW hrec hkW hR;obtain⟨pre,hpre⟩:=hpre;obtain⟨cs,hcs,rfl⟩:=List.mem_map.1 (show v∈(valsE W4 (au x) [.int .i64 (au x).kind,.string (au x).name,.int .i64 (au x).n,.int .i64 (au x).d,.slice D m d]).map vS by rw[hpre];simp);obtain⟨y,hy,Ve⟩:=KD (au x) hx4 hcs;obtain⟨D1,m2,d2,rfl,hi64,hsy⟩:=kH.sl Ve;have hyk:=hback.out.1 y hy;obtain⟨U1,hU1,yZ,G2⟩:=fP (w:=W) ((Fr.nil W).a W.heap.size [.int .i64 y.kind,.string y.name,.int .i64 y.n,.int .i64 y.d,.slice D1 m2 d2] 87);have hRV:=hR.go yZ;clear hpre hcs hy Ve hsy hkW;gi_wp2;refine⟨oq yZ hsW _,fun U=>Y5 W5 U Ds wr.heap.size k (wr.heap.size+1) [.string x.1,.int .i64 x.2.1,.int .i64 x.2.2.1,.int .i64 x.2.2.2.1,.bool x.2.2.2.2.1,.bool x.2.2.2.2.2.1,.int .i64 (au x).kind,.string (au x).name,.int .i64 (au x).n,.int .i64 (au x).d,.slice D m d,.string x.2.2.2.2.2.2.2.1,.int .i64 x.2.2.2.2.2.2.2.2]/\∀i u, [Value.int .i64 y.kind,.string y.name,.int .i64 y.n,.int .i64 y.d,.slice D1 m2 d2][i]?=some u->U.cell? ⟨W.heap.size,i,none⟩=some u,hst.and (vU _ _ _),⟨hRV,G2.nth 0⟩,?_⟩;rintro U hxl hsU ⟨hRU,Nr⟩;have u0:U.cell? ⟨W.heap.size,0,none⟩=_:=Nr 0 _ rfl;have u2:U.cell? ⟨W.heap.size,2,none⟩=_:=Nr 2 _ rfl;have u3:=hRU.i.1;have HRU:=Hd hRU;have Vh:s<=U.heap.size:=by rw[hsU];exact Nat.le_trans hsW yZ.size
   clear hRU Nr hRV hR yZ G2 hxl hsU;by_cases h5:y.kind=5;·have h6:=hyk h5;have h7:decide (y.n>=(k:Int))=false:=decide_eq_false (by omega);have h8:(y.kind==5)=true:=beq_iff_eq.2 h5;gi_wp2;exact⟨oq (Below.refl _ _) Vh _,HRU.out⟩
   ·have h8:(y.kind==5)=false:=beq_eq_false_iff_ne.2 h5;gi_wp2;exact⟨oq (Below.refl _ _) Vh _,HRU.out⟩
  case done=>
   rintro D2 W hD hR hdef;have hx:=hR.x;have a0:=hx 12 _ rfl;have I6:=HI.out.1.go hR.bl;have a1:=I6.l.1;have HR2:=Hd2 hR I6;have HD:=Hd2 hD hdef;clear hR I6 hx hD hdef;by_cases ht:0<=x.2.2.2.2.2.2.2.2
   ·obtain⟨tn,htn,htl,hki⟩:=hback.out.2 ht;have hl4:=HI.out.2.1.ties.len;have abX:tn<s4.n:=by omega
    obtain⟨hfz,A',m',c',hrow,hor⟩:=HR2.out.2.rows tn abX;obtain⟨lk,hlk,hin⟩:∃lk,Sl bK W M A' m' c' lk/\∀q,q∈lk->Hg k q:=by
     rcases hor with⟨rfl,rfl⟩|hor;·exact⟨[],⟨rfl,Nat.le_refl _,by simp[jG],by omega,.inl rfl⟩,fun q hq=>by cases hq⟩
     exact⟨_,hor,hki⟩
    have Ux:=Hd2 hlk hin;have ht2:decide ((tn:Int)>=0)=true:=decide_eq_true (by omega);rw[htn]at a0;clear hor hlk hin hki htl hl4 hfz
    gi_wp2_with (first
     |(refine Cl 101 (Qh (gf:=102) (caps:=#[.pointer (some ⟨wr.heap.size,0,none⟩)]) (M:=M) (fun _ U=>Below W.heap.size W U) (enters_of (P:=prog) func102 (by kernel_rfl) rfl) Ux.out.1 (Below.refl _ _) (fun _ A B a b=>a.trans (b.mono a.size)) (fun _ A a=>Keeps.of_below a _)
         (fun j y U cs hj hr hI=>by obtain⟨rfl,-⟩:=rd_key hr;exact(Oh (aZ.block HR2.out.1.i (hI.block _ HR2.out.1.i.lt)) (Ux.out.2 y (List.mem_of_getElem? hj))).mono (fun e w' a=>⟨a.1,hI.trans (a.2.mono hI.size)⟩))) ?_
       rintro e w7 ⟨rfl,hb7⟩;have HR7:=Hd (HR2.out.1.go hb7);have HD7:=Hd2 HD.out.1 ((hb7.block D2 (Array.getElem?_eq_some_iff.1 HD.out.2).1).trans HD.out.2);clear hb7)
     |fail)
    refine HK.out _ _ _ ?_ ⟨k+1,D2::Ds,by omega,?_,rfl,HR7.out.ms.add HD7.out.2 (Nat.le_trans hbw.size HD7.out.1) (fun h=>absurd (HM4.out.lt h) (by have:=HD7.out.1;omega)),HR7.out.bl⟩ ?_;·rw[hA];kernel_rfl
    ·kernel_rfl
    exact aeE
   ·have ht2:decide (x.2.2.2.2.2.2.2.2>=0)=false:=decide_eq_false ht
    gi_wp2_with (first
     |(refine⟨trivial,?_⟩)
     |fail)
    refine HK.out _ _ _ ?_ ⟨k+1,D2::Ds,by omega,?_,rfl,HR2.out.1.ms.add HD.out.2 (Nat.le_trans hbw.size HD.out.1) (fun h=>absurd (HM4.out.lt h) (by have:=HD.out.1;omega)),HR2.out.1.bl⟩ ?_;·rw[hA];kernel_rfl
    ·kernel_rfl
    exact aeE
 ·have hkn:k=s5.n:=by omega
  subst hkn;clear hlt hk;have I6:=HI.out.1.go hB;have g1:=I6.l.1;have g2:=I6.l.2;have g3:=I6.e.1;have g4:=I6.e.2;have g5:=aN g1;have g6:=aN g3;clear I6 hmk hB;gi_wp2;refine Il (B:=W5.heap.size) (fun W=>Below W5.heap.size W5 W) (fun W D h hD _=>nV h hD (Nat.le_refl _)) (fun W h=>?_) Ds wr HB.out.1 HB.out.2;have I7:=HI.out.1.go h;have j1:=I7.l.1;have j2:=I7.e.1;exact⟨.tuple #[.slice (some ⟨L,0,none⟩) s4.n s4.n,.int .i64 0],by simp[results,go_sem,j1,j2],L,rfl,I7.rows,I7.bl⟩
theorem Pq(hr:dG w M r s1 s2 s3 s4 s5 s6 s7)(hg:ZH r)(hf:F15 r)(T:T15 r rk)(hl:∀i x,r.rounds[i]?=some x->backOk r i x)(ht:Tab w)(hM:b_ M w):
 CB 34 #[.agg (aV r s1 s2 s3 s4 s5 s6 s7).toArray] (.int .i64 0) w:=by
 refine wid ?_;obtain⟨W1,hW1,F1⟩:=nam ((Fr.nil w).a w.heap.size (aV r s1 s2 s3 s4 s5 s6 s7) 52);refine op1 F1 ?_;intros;have HC:=Hd (Po (hr.go F1.bl) hg hf T hl (tab_below ht F1.bl) (hM.le F1.bl.size));have HF:=Hd F1;clear F1 hr hg hf T hl ht hM;refine ent func34 rfl ntmps34 ?_
 gi_wp2_with (first
  |(refine Cl 65 HC.out ?_;rintro e w2 ⟨L,rfl,-,hb2⟩;have HB:=Hd (HF.out.bl.trans (hb2.mono HF.out.bl.size));clear hb2)
  |fail)
 go_ret;exact⟨rfl,HB.out⟩
end
end Go.Proofs.YtefnknhjlejalaaGreatDoor
