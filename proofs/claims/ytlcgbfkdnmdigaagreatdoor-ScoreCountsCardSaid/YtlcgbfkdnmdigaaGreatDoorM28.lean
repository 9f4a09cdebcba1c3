/- Lemmas and walks; no statement is proved here. -/
import Derived.Test.YtlcgbfkdnmdigaaGreatDoorM27
set_option linter.unusedVariables false
set_option linter.unusedSimpArgs false
set_option maxRecDepth 20000
set_option maxHeartbeats 6000000
namespace Go.Proofs.YtlcgbfkdnmdigaaGreatDoor
open Go.Proofs.Tryz Go.RowKit Go.Shelf
theorem agJ{p:Prop}(h:p:=by
 gi_wp2_with (first
  |(gi_at_builtin;refine wpListIn_plain rfl fun K hK'=>?_;refine aI _ _ _ rfl rfl rfl HA.out.1 (hK' _ _ ?_);clear hK' K)
  |fail)
 exact⟨⟨k+1,_,_,by omega,rfl,rfl,by go_num,Hd (by rw[dZ _ HY.out.1,<-Bool.and_assoc,<-hp.out,HQ.out];rfl),HA.out.2⟩,by simp[intOf];omega⟩):p:=h
theorem agV{p:Prop}(h:p:=by rw[<-U3.out];exact sV HY.out.2 hcn hrn (r_.less (fun q hq=>List.mem_cons_of_mem _ hq))):p:=h
theorem ad1{p:Prop}(h:p:=by
 obtain⟨y,hy⟩:=dW l k (by rw[HM.out];exact hlt);have hmem:=List.mem_of_getElem? hy;obtain⟨wd,hwd⟩:=aC wr.drew;have hbd:Below wr.heap.size wr wd:=by rw[<-hwd];exact(Below.refl _ _).drew
 have JD:=hJ.out.go hbd;obtain⟨b,o,B,n2,d2,rfl,⟨h0,h1,h2,h3,h4⟩,ZM,hys⟩:=(H.out.1.go hJ.out.fr.bl).qQ hy;have Kv:=hys.go hbd;obtain⟨sb,hsb⟩:=aC wr.heap.size;have yU:=Hd (show wd.heap.size=sb by rw[<-hwd];exact hsb);have u0:=bQ hsb h0;have u1:=bQ hsb h1;have u2:=bQ hsb h2;have u3:=bQ hsb h3;have u4:=bQ hsb h4;have q0:=bQ hsb (hJ.out.fr.aQ 0 0);have q1:=bQ hsb (hJ.out.fr.aQ 0 1);have q2:=bQ hsb (hJ.out.fr.aQ 0 2);have q3:=bQ hsb (hJ.out.fr.aQ 0 3);have q4:=bQ hsb (hJ.out.fr.aQ 1 4);have HC:=fun(Q:List Nat) (V:World) (hb:Below wd.heap.size wd V) (hQ:b_ Q V)=>IH.out y hmem (M:=Q) (Kv.go hb) ((H.out.2.go (JD.fr.bl)).go hb) hQ (II.out y hmem);have XH:=Hd HC;have Qc:=Hd JD;have HY:=Hd2 hy ZM;have yT:=Hd hwd;clear HC Kv hys hmem JD hy ZM h0 h1 h2 h3 h4 hwd hsb;gi_wp2;refine aP sb 12 (by kernel_rfl) (by kernel_rfl) ?_;refine ay 0 ?_;refine ay 1 ?_;refine ay 2 ?_;refine ay 3 ?_;refine ay 4 ?_;refine ay 5 ?_;rw[yT.out];refine oQ 6 [10] (by kernel_rfl) (dN (by decide) rfl ?_ (fun K hK=>?_) (dN (by decide) rfl ?_ (fun K hK=>?_) gU));·exact wy
 rotate_left;·exact wy
 rotate_left
 ·gi_wp2;refine Cl 102 (XH.out (bP v++((w.heap.size+1)::(w.heap.size+1+1)::M)) wd (Below.refl _ _) Qc.out.bel) ?_;rintro e w2 ⟨A',m',c',rfl,hs2,hb2⟩;refine hK _ _ ⟨?_,?_⟩;clear hK K;·exact Keeps.of_below hb2 _
  refine lit ?_;have hz2:=(hs2.more (b:=w2.heap.size) (Nat.le_refl _));obtain⟨y2,hy2⟩:=aC w2.heap.size;rw[hy2]at hz2;have G1:=((Fr.nil wd).go hb2).a y2 zE 48 hy2.symm;obtain⟨V3,JM⟩:=aC (w2.alloc (.cells zE.toArray 48));have hb3:Below w2.heap.size w2 V3:=by rw[<-JM];exact bel
  have G3:Fr wd V3 [(y2,zE)]:=by rw[<-JM];exact G1
  have hz3:=hz2.go hb3;obtain⟨n3,hn3⟩:=aC (fH (dP r) (dQ r) y).n;have U3:=Hd hn3;obtain⟨q,hq⟩:=aC (okR (dP r) (dQ r) y);have HQ:=Hd hq;rw[hn3,hq];clear hs2 hb2 hz2 G1 hn3 hq;refine ay 7 ?_;refine ay 8 ?_;refine ay 9 ?_;refine eU 10 fun K hK=>?_;gi_wp2;refine⟨Keeps.of_below hb3 _,?_⟩;refine lit ?_;(try rw[hy2]);clear hb3 hy2 JM;obtain⟨V5,oM⟩:=aC (fM V3 y2 0 [.int .i64 y.kind,.string y.name,.int .i64 n3,.int .i64 y.d,.slice A' m' c']);obtain⟨F5,jD⟩:=G3.oh (us:= [.int .i64 y.kind,.string y.name,.int .i64 n3,.int .i64 y.d,.slice A' m' c']) rfl oM;have r_:=hz3.keep (jD.k.mono (fun q hq=>by rw[List.mem_singleton]at hq;subst hq;exact List.mem_cons_self));have ku:=Keeps.sU (s:=sb) jD.k (by rw[<-yU.out];exact G3.ge y2 zE (by simp));have JQ:((((V3.setCell ⟨y2,0,none⟩ (.int .i64 y.kind)).setCell ⟨y2,1,none⟩ (.string y.name)).setCell ⟨y2,2,none⟩ (.int .i64 n3)).setCell ⟨y2,3,none⟩ (.int .i64 y.d)).setCell ⟨y2,4,none⟩ (.slice A' m' c')=V5:=oM;refine op1 G3 ?_;intros;clear G3 hz3 oM jD;refine eU 11 fun K hK=>?_;gi_wp2;refine⟨ku,?_⟩;clear ku;refine lit ?_;refine iq 1 ?_;refine jW fun K hK K' hK'=>?_;gi_wp2;refine tail_nil _ ?_;simp only[cu];obtain⟨v',wA,r1,J1⟩:=(Qc.out.go F5.bl).step (x:=fH (dP r) (dQ r) y) (cs:= [.int .i64 y.kind,.string y.name,.int .i64 n3,.int .i64 y.d,.slice A' m' c']) (by exact agV) (by have:=HL.out;simp;omega);rw[nS HY.out.1]at J1;obtain⟨A9,c9,e9⟩:=J1.own.shape;obtain⟨n9,uF⟩:=aC ((l.take (k+1)).map (fH (dP r) (dQ r))).length;rw[uF]at e9;subst e9;have HA:=Hd2 r1 J1;refine op1 F5 ?_;intros;clear r1 J1 F5 r_ JQ uF;cases p<;>cases q
  all_goals
   exact agJ
 obtain⟨y2,hy2⟩:=aC wd.heap.size;have G1:=(Fr.nil wd).a y2 zE 48 hy2.symm;obtain⟨w2,hw2⟩:=aC (wd.alloc (.cells zE.toArray 48));have hb3:Below wd.heap.size wd w2:=by rw[<-hw2];exact bel
 have G2:Fr wd w2 [(y2,zE)]:=by rw[<-hw2];exact G1
 have HC2:=Hd (XH.out (y2::(bP v++((w.heap.size+1)::(w.heap.size+1+1)::M))) w2 hb3 (fun q hq=>by
  rcases List.mem_cons.1 hq with rfl|hq;·exact G2.lt _ zE (by simp)
  exact Nat.lt_of_lt_of_le (Qc.out.bel q hq) hb3.size))
 obtain⟨n3,hn3⟩:=aC (fH (dP r) (dQ r) y).n;have U3:=Hd hn3;obtain⟨q,hq⟩:=aC (okR (dP r) (dQ r) y);have HQ:=Hd hq;rw[hn3,hq]at HC2;have HG2:=Hd G2;clear G1 G2 hn3 hq;gi_wp2;refine⟨Keeps.of_below hb3 _,?_⟩;refine lit ?_;(try rw[hy2]);clear hb3 hy2 hw2;refine eU 6 fun K hK=>?_;gi_wp2;refine Cl 102 HC2.out ?_;rintro e V3 ⟨A',m',c',rfl,hz3,hb2⟩;have G3:=HG2.out.go hb2;refine hK _ _ ⟨?_,?_⟩;clear hK K;·exact Keeps.of_below hb2 _
 refine lit ?_;clear hb2 HC2 HG2;refine ay 7 ?_;refine ay 8 ?_;refine ay 9 ?_;obtain⟨V5,oM⟩:=aC (fM V3 y2 0 [.int .i64 y.kind,.string y.name,.int .i64 n3,.int .i64 y.d,.slice A' m' c']);obtain⟨F5,jD⟩:=G3.oh (us:= [.int .i64 y.kind,.string y.name,.int .i64 n3,.int .i64 y.d,.slice A' m' c']) rfl oM;have r_:=hz3.keep (jD.k.mono (fun q hq=>by rw[List.mem_singleton]at hq;subst hq;exact List.mem_cons_self));have ku:=Keeps.sU (s:=sb) jD.k (by rw[<-yU.out];exact G3.ge y2 zE (by simp));have JQ:((((V3.setCell ⟨y2,0,none⟩ (.int .i64 y.kind)).setCell ⟨y2,1,none⟩ (.string y.name)).setCell ⟨y2,2,none⟩ (.int .i64 n3)).setCell ⟨y2,3,none⟩ (.int .i64 y.d)).setCell ⟨y2,4,none⟩ (.slice A' m' c')=V5:=oM;refine op1 G3 ?_;intros;clear G3 hz3 oM jD;refine eU 11 fun K hK=>?_;gi_wp2;refine⟨ku,?_⟩;clear ku;refine lit ?_;refine iq 1 ?_;refine jW fun K hK K' hK'=>?_;gi_wp2;refine tail_nil _ ?_;simp only[cu];obtain⟨v',wA,r1,J1⟩:=(Qc.out.go F5.bl).step (x:=fH (dP r) (dQ r) y) (cs:= [.int .i64 y.kind,.string y.name,.int .i64 n3,.int .i64 y.d,.slice A' m' c']) (by exact agV) (by have:=HL.out;simp;omega);rw[nS HY.out.1]at J1;obtain⟨A9,c9,e9⟩:=J1.own.shape;obtain⟨n9,uF⟩:=aC ((l.take (k+1)).map (fH (dP r) (dQ r))).length;rw[uF]at e9;subst e9;have HA:=Hd2 r1 J1;refine op1 F5 ?_;intros;clear r1 J1 F5 r_ JQ uF;cases p<;>cases q
 all_goals
  exact agJ):p:=h
theorem afF{p:Prop}(h:p:=by exact⟨0,ok0,_,Nat.zero_le _,by rw[<-Ko.out],rfl,rfl,Hd (by simp),J0⟩):p:=h
theorem afG{p:Prop}(h:p:=by rw[HX.out.2,hp.out,List.take_of_length_le (by rw[HM.out];exact Nat.le_refl _)]):p:=h
theorem agG{p:Prop}(h:p:=by
 rcases List.mem_cons.1 hq with rfl|hq;·omega
 have:=h.bM q hq;omega):p:=h
variable {U:World}{y:aU}{us:List Value}{A:Option Addr}{k:bK}{c:Nat}{u0:Value}{cn rn:List ByteArray}{r:aS}{t0 t1 t2 t3:dK}
section
attribute [local go_sem] Oper.semAt_some
theorem JO.go{w w':World}{M:List Nat}{r:aS}{t0 t1 t2 t3:dK}(h:JO w M r t0 t1 t2 t3)(hb:Below w.heap.size w w'):JO w' M r t0 t1 t2 t3:=⟨h.c.go hb,h.i.go hb,h.t.go hb,h.r.go hb⟩
abbrev zE:List Value:= [.int .i64 0,.string ⟨#[]⟩,.int .i64 0,.int .i64 0,.slice none 0 0]
abbrev Af(t0 t1 t2 t3:dK):List Value:= [.slice t0.A t0.n t0.c,.slice t1.A t1.n t1.c,.slice t2.A t2.n t2.c,.slice t3.A t3.n t3.c]
theorem Fr.oh{w V:World}{y:Nat}{vs:List Value}(h:Fr w V [(y,vs)])(hl:us.length=vs.length)(hU:fM V y 0 us=U):Fr w U [(y,us)]/\KB y V U:=by
 have hm:(y,vs)∈ [(y,vs)]:=List.mem_singleton.2 rfl;obtain⟨hc,kb⟩:=iO (fun i u hu=>h.at_ y vs hm i u hu) hl hU;have hge:=h.ge y vs hm;refine⟨⟨h.bl.trans (kb.bl.mono hge),fun b us' hb=>?_,fun b us' hb=>?_,fun b us' hb=>?_⟩,kb⟩<;>(rw[List.mem_singleton,Prod.mk.injEq]at hb;obtain⟨rfl,rfl⟩:=hb)
 ·exact hc
 ·exact Nat.lt_of_lt_of_le (h.lt _ _ hm) kb.k.size
 exact hge
structure GH(w W wr:World)(LC XC:List Value)(M:List Nat)(v:Value)(l:List aU):Prop where
 fr:Fr w wr [(w.heap.size,LC),(w.heap.size+1,XC),(w.heap.size+1+1,zE)]
 own:bD aU 48 wr ((w.heap.size+1)::(w.heap.size+1+1)::M) W.heap.size v l.length l
 kp:W.heap.size<=wr.heap.size
 hW:w.heap.size+3<=W.heap.size
 bM:∀q,q∈M->q<w.heap.size
section
variable {w W wr wz:World}{LC XC:List Value}{M:List Nat}{v:Value}{l:List aU}
theorem GH.go(h:GH w W wr LC XC M v l)(hb:Below wr.heap.size wr wz):GH w W wz LC XC M v l:=⟨h.fr.go hb,h.own.go hb,Nat.le_trans h.kp hb.size,h.hW,h.bM⟩
theorem GH.lt3(h:GH w W wr LC XC M v l){q:Nat}(hq:q∈(w.heap.size+1)::(w.heap.size+1+1)::M):q<W.heap.size:=by
 have h1:=h.hW;rcases List.mem_cons.1 hq with rfl|hq;·omega
 exact agG
theorem GH.bel(h:GH w W wr LC XC M v l):b_ (bP v++((w.heap.size+1)::(w.heap.size+1+1)::M)) wr:=fun q hq=>by
 rcases List.mem_append.1 hq with hq|hq;·exact(h.own.lt (bJ.1 hq)).2
 exact Nat.lt_of_lt_of_le (h.lt3 hq) h.kp
theorem GH.start(h:Fr w wr [(w.heap.size,LC),(w.heap.size+1,XC),(w.heap.size+1+1,zE)])(hM:b_ M w):GH w wr wr LC XC M (.slice none 0 0) []:=⟨h,bD.nil _ _ _,Nat.le_refl _,h.lt (w.heap.size+1+1) zE (by simp),hM⟩
theorem GH.step(h:GH w W wr LC XC M v l){x:aU}{cs:List Value}(hx:Rep.rd wr (bP v++((w.heap.size+1)::(w.heap.size+1+1)::M)) x cs)(hl:l.length<=100000):
 ∃v' wA,(Builtin.append_ #[46,46] 46 #[v,.slice (some ⟨wr.heap.size,0,none⟩) 1 1]).run prog (wr.alloc (.cells cs.toArray 48))=.ok v' wA/\GH w W wA LC XC M v' (l++ [x]):=by
 obtain⟨v',wA,r1,r2,r3,r4,r5⟩:=h.own.app1 (x:=x) (cs:=cs) underlying46 CJ h.kp (fun q hq=>Nat.lt_of_lt_of_le (h.lt3 hq) h.kp) hx hl;refine⟨v',wA,r1,h.fr.ZI r3 (fun k hk=>?_),?_,Nat.le_trans h.kp r3.size,h.hW,h.bM⟩;·have h1:=(h.own.lt hk).1;have h2:=h.hW;refine⟨by omega,fun b vs hm e=>?_⟩;exact afB
 ·have hlen:(l++ [x]).length=l.length+1:=by simp
  rw[hlen];exact r2
end
theorem GH.fin{w W wr:World}{LC XC:List Value}{M:List Nat}{k:Nat}{l ls:List aU}{v u:Value}(h:GH w W wr LC XC M v l)(hs:Sl aU wr ((w.heap.size+1)::(w.heap.size+1+1)::M) A k c ls)(hj:XC[4]?=some u0)(hl:us.length=5)
 (hU:fM (wr.setCell ⟨w.heap.size+1,4,none⟩ u) (w.heap.size+1+1) 0 us=U):Sl aU U M A k c ls/\Below w.heap.size w U/\∀i x,us[i]?=some x->U.cell? ⟨w.heap.size+1+1,i,none⟩=some x:=by
 obtain⟨c1,k1⟩:=uD (fun i x hx=>h.fr.at_ (w.heap.size+1) XC (by simp) i x hx) hj u;have f1:Fr w (wr.setCell ⟨w.heap.size+1,4,none⟩ u) [(w.heap.size+1+1,zE)]:=(h.fr.only (L':= [(w.heap.size+1+1,zE)]) (fun x hx=>by simp at hx;simp[hx])).kb k1 (by omega) (fun b vs hb=>by simp at hb;omega);obtain⟨f2,k2⟩:=f1.oh (us:=us) (by rw[hl];rfl) hU;exact⟨((hs.keep (k1.k.mono (fun q hq=>by simp at hq;simp[hq]))).keep (k2.k.mono (fun q hq=>by simp at hq;simp[hq]))).less (fun q hq=>by simp[hq]),f2.bl,fun i x hx=>(f2.at_ (w.heap.size+1+1) us (by simp) i x hx).1⟩
theorem Fr.mid{w W:World}{j:Nat}{A B C:List Value}(h:Fr w W [(w.heap.size,A),(w.heap.size+1,B),(w.heap.size+1+1,C)])(hj:B[j]?=some u0)(u:Value):Fr w (W.setCell ⟨w.heap.size+1,j,none⟩ u) [(w.heap.size,A),(w.heap.size+1,B.set j u),(w.heap.size+1+1,C)]:=by
 have hm:(w.heap.size+1,B)∈ [(w.heap.size,A),(w.heap.size+1,B),(w.heap.size+1+1,C)]:=by simp
 obtain⟨x,k⟩:=uD (fun i v hv=>h.at_ _ B hm i v hv) hj u;have h1:=(h.only (L':= [(w.heap.size,A),(w.heap.size+1+1,C)]) (fun x hx=>by simp only[List.mem_cons,List.not_mem_nil,or_false]at hx |-;rcases hx with rfl|rfl<;>simp)).kb k (by omega) (fun b vs hb=>by simp at hb;omega);refine⟨h1.bl,fun c vs hc=>?_,fun c vs hc=>?_,fun c vs hc=>?_⟩<;>(simp only[List.mem_cons,Prod.mk.injEq,List.not_mem_nil,or_false]at hc;rcases hc with⟨rfl,rfl⟩|⟨rfl,rfl⟩|⟨rfl,rfl⟩)
 ·exact h1.at_ _ _ (by simp)
 ·exact x
 ·exact h1.at_ _ _ (by simp)
 ·exact h1.lt _ vs (by simp)
 ·exact Nat.lt_of_lt_of_le (h.lt _ _ hm) k.k.size
 ·exact h1.lt _ vs (by simp)
 ·exact h1.ge _ vs (by simp)
 ·omega
 exact h1.ge _ vs (by simp)
theorem sV{w:World}{M:List Nat}{m:Nat}(hi:i64 y.kind/\i64 y.n/\i64 y.d)(hc:cn.length<=100000)(hr:rn.length<=100000)(hs:Sl aU w M A m c (Ae cn rn y.l)):
 Rep.rd w M (fH cn rn y) [.int .i64 y.kind,.string y.name,.int .i64 (fH cn rn y).n,.int .i64 y.d,.slice A m c]:=by
 rw[BG];refine kH.of ⟨hi.1,?_,hi.2.2⟩ hs;have h1:=oW cn y.name;have h2:=oW rn y.name;have h3:=hi.2.1;unfold i64 at*
 split;·omega
 ·split<;>omega
theorem nS{l:List aU}{k:Nat}(h:l[k]?=some y):(l.take k).map (fH cn rn)++ [fH cn rn y]=(l.take (k+1)).map (fH cn rn):=by rw[List.take_add_one,h,List.map_append];rfl
def NW(r:aS)(x:aU):Prop:=∀{M M1 M2:List Nat}{A:Option Addr}{m c:Nat}{t0 t1 t2 t3:dK}{w:World},Sl aU w M1 A m c x.l->JO w M2 r t0 t1 t2 t3->b_ M w->nodes x<=100000->Calls prog 102 #[.agg (Af t0 t1 t2 t3).toArray,.agg #[.int .i64 x.kind,.string x.name,.int .i64 x.n,.int .i64 x.d,.slice A m c]] w fun e w'=>∃A' m' c',e=.returned (.tuple #[.agg #[.int .i64 x.kind,.string x.name,.int .i64 (fH (dP r) (dQ r) x).n,.int .i64 x.d,.slice A' m' c'],.bool (okR (dP r) (dQ r) x)])/\Sl aU w' M A' m' c' (Ae (dP r) (dQ r) x.l)/\Below w.heap.size w w'
namespace U
open Go.RowKit Go.Shelf
attribute [local go_sem] Oper.semAt_some
theorem X7(r:aS)(hcn:(dP r).length<=100000)(hrn:(dQ r).length<=100000)(x:aU)(ih:∀y,y∈x.l->NW r y)(h2:¬x.kind=2)(h5:¬x.kind=5):NW r x:=by
 intro M M1 M2 A m c t0 t1 t2 t3 w hs hnm hM hl;refine wid ?_;have hsm:=hs.small;have HM:=Hd hs.len;have HX:=Hd (show(fH (dP r) (dQ r) x).n=x.n/\okR (dP r) (dQ r) x=(true&&x.l.all (okR (dP r) (dQ r))) by rw[BG,I9,qC,if_neg h2,if_neg h5,if_neg h2,if_neg h5];exact⟨rfl,rfl⟩);have II:=Hd (fun y (hy:y∈x.l)=>Nat.le_trans (fK hy) (show dh x.l<=100000 by have:=gV x;omega));have HL:=Hd (show x.l.length<=100000 by have:=gV x;have:=jX x.l;omega);obtain⟨ok0,hok0⟩:=aC true;rw[hok0]at HX;have Ko:=Hd hok0;clear hok0;have k2:(x.kind==2)=false:=beq_eq_false_iff_ne.2 h2;have k5:(x.kind==5)=false:=beq_eq_false_iff_ne.2 h5;obtain⟨n',hn'⟩:=aC (fH (dP r) (dQ r) x).n;rw[hn']at HX;have hxn:=HX.out.1;obtain⟨l,hxl⟩:=aC x.l;rw[hxl]at hs HM ih II HX HL;have IH:=Hd ih;have H:=Hd2 hs hnm;obtain⟨kd,hkd⟩:=aC x.kind;obtain⟨nm,E_⟩:=aC x.name;obtain⟨xd,hxd⟩:=aC x.d;rw[hkd]at k2 k5;rw[hkd,E_,<-hxn,hxd,hn',hxl];clear hs hnm ih hxl hkd E_ hxd hl h2 h5 hn' hxn;obtain⟨W1,hW1,F1⟩:=dR ((((Fr.nil w).a w.heap.size (Af t0 t1 t2 t3) 140).a (w.heap.size+1) [.int .i64 kd,.string nm,.int .i64 n',.int .i64 xd,.slice A m c] 48).a (w.heap.size+1+1) zE 48);have J0:=Hd (GH.start (M:=M) F1 hM);refine op1 F1 ?_;intros;clear F1;refine ent func102 rfl ntmps102 ?_;gi_wp2;gi_loopw[6,7,8] (fun v6 v7 i wr=>∃(k:Nat) (p:Bool) (v:Value),k<=m/\v6=.bool p/\v=v7/\i=.int .i64 k/\Hid (p=(ok0&&(l.take k).all (okR (dP r) (dQ r))))/\Hid (GH w W1 wr (Af t0 t1 t2 t3) [.int .i64 kd,.string nm,.int .i64 n',.int .i64 xd,.slice A m c] M v ((l.take k).map (fH (dP r) (dQ r))))) (fun _ _ i _=>m-(intOf i).toNat);case atStart=>exact afF
 case round=>
  obtain⟨k,p,v,hk,rfl,rfl,rfl,hp,hJ⟩:=hrel;have hfo:=hJ.out.fr;refine op1 hfo ?_;intros;clear hfo;by_cases hlt:k<m;·exact ad1
  ·have hkm:k=m:=by omega
   clear hk hlt;subst hkm;have JX:=hJ.out;rw[List.take_of_length_le (by rw[HM.out];exact Nat.le_refl _),<-mg]at JX;have hlr:(Ae (dP r) (dQ r) l).length=k:=by rw[mg,List.length_map,HM.out]
   obtain⟨A9,c9,rfl,hs9⟩:=JX.own.sl (by have:=HL.out;rw[HM.out]at this;omega) (fun q hq=>JX.lt3 hq);rw[hlr]at hs9 |-;have HP:=Hd (show okR (dP r) (dQ r) x=p by exact afG);have ZN:=Hd2 JX hs9;clear JX hs9 hlr;gi_wp2;refine(fun(h:∀U,fM (wr.setCell ⟨w.heap.size+1,4,none⟩ (.slice A9 k c9)) (w.heap.size+1+1) 0 [.int .i64 kd,.string nm,.int .i64 n',.int .i64 xd,.slice A9 k c9]=U->bodyPost _ _ _ _ _ U)=>h _ rfl) ?_;intro U hU;obtain⟨g1,g2,g3⟩:=ZN.out.1.fin ZN.out.2 (by exact rfl) rfl hU;have z0:=g3 0 _ rfl;have z1:=g3 1 _ rfl;have z2:=g3 2 _ rfl;have z3:=g3 3 _ rfl;have z4:=g3 4 _ rfl;exact⟨rfl,.tuple #[.agg #[.int .i64 kd,.string nm,.int .i64 n',.int .i64 xd,.slice A9 k c9],.bool p],by simp[results,go_sem,z0,z1,z2,z3,z4],A9,k,c9,by rw[HP.out],g1,g2⟩
theorem X8(r:aS)(hcn:(dP r).length<=100000)(hrn:(dQ r).length<=100000)(x:aU)(ih:∀y,y∈x.l->NW r y)(h2:x.kind=2):NW r x:=by
 intro M M1 M2 A m c t0 t1 t2 t3 w hs hnm hM hl;refine wid ?_;have hsm:=hs.small;have HM:=Hd hs.len;have e0:(fH (dP r) (dQ r) x).n=dO (dP r) x.name:=by rw[BG,if_pos h2];rfl
 have HX:=Hd (show(fH (dP r) (dQ r) x).n=dO (dP r) x.name/\okR (dP r) (dQ r) x=(decide (0<=(fH (dP r) (dQ r) x).n)&&x.l.all (okR (dP r) (dQ r)))from⟨e0,by rw[e0,I9,qC,if_pos h2]⟩);clear e0;have II:=Hd (fun y (hy:y∈x.l)=>Nat.le_trans (fK hy) (show dh x.l<=100000 by have:=gV x;omega));have HL:=Hd (show x.l.length<=100000 by have:=gV x;have:=jX x.l;omega);obtain⟨n',hn'⟩:=aC (fH (dP r) (dQ r) x).n;rw[hn']at HX;obtain⟨l,hxl⟩:=aC x.l;rw[hxl]at hs HM ih II HX HL;have IH:=Hd ih;have H:=Hd2 hs hnm;obtain⟨nm,E_⟩:=aC x.name;obtain⟨xd,hxd⟩:=aC x.d;obtain⟨xn,hxn⟩:=aC x.n;obtain⟨ok0,hok0⟩:=aC (decide (0<=n'));rw[E_,hok0]at HX;have Ko:=Hd hok0;rw[h2,E_,hxn,hxd,hn',hxl];obtain⟨W1,hW1,F1⟩:=dR ((((Fr.nil w).a w.heap.size (Af t0 t1 t2 t3) 140).a (w.heap.size+1) [.int .i64 2,.string nm,.int .i64 xn,.int .i64 xd,.slice A m c] 48).a (w.heap.size+1+1) zE 48);have HI:=Hd (ru nm (hnm.c.go F1.bl));obtain⟨W2,hW2⟩:=aC (W1.setCell ⟨w.heap.size+1,2,none⟩ (.int .i64 n'));have F2:=F1.mid (j:=2) (B:= [.int .i64 2,.string nm,.int .i64 xn,.int .i64 xd,.slice A m c]) rfl (.int .i64 n');rw[hW2]at F2;have J0:=Hd (GH.start (M:=M) (XC:= [.int .i64 2,.string nm,.int .i64 n',.int .i64 xd,.slice A m c]) F2 hM);refine op1 F1 ?_;intros;clear hs hnm ih hxl E_ hxd hl h2 hn' hxn F1 F2;refine ent func102 rfl ntmps102 ?_
 gi_wp2_with (first
  |(refine Cl 100 HI.out ?_;rintro e w' ⟨⟨i,rfl,hi⟩,rfl⟩;obtain rfl:n'=i:=by rw[HX.out.1];exact(lV hi).symm
    have hfo:=J0.out.fr;refine op1 hfo ?_;intros;clear hfo hi)
  |fail)
 clear hok0;gi_loopw[6,7,8] (fun v6 v7 i wr=>∃(k:Nat) (p:Bool) (v:Value),k<=m/\v6=.bool p/\v=v7/\i=.int .i64 k/\Hid (p=(ok0&&(l.take k).all (okR (dP r) (dQ r))))/\Hid (GH w W2 wr (Af t0 t1 t2 t3) [.int .i64 2,.string nm,.int .i64 n',.int .i64 xd,.slice A m c] M v ((l.take k).map (fH (dP r) (dQ r))))) (fun _ _ i _=>m-(intOf i).toNat);case atStart=>exact afF
 case round=>
  obtain⟨k,p,v,hk,rfl,rfl,rfl,hp,hJ⟩:=hrel;have hfo:=hJ.out.fr;refine op1 hfo ?_;intros;clear hfo;by_cases hlt:k<m;·exact ad1
  ·have hkm:k=m:=by omega
   clear hk hlt;subst hkm;have JX:=hJ.out;rw[List.take_of_length_le (by rw[HM.out];exact Nat.le_refl _),<-mg]at JX;have hlr:(Ae (dP r) (dQ r) l).length=k:=by rw[mg,List.length_map,HM.out]
   obtain⟨A9,c9,rfl,hs9⟩:=JX.own.sl (by have:=HL.out;rw[HM.out]at this;omega) (fun q hq=>JX.lt3 hq);rw[hlr]at hs9 |-;have HP:=Hd (show okR (dP r) (dQ r) x=p by exact afG);have ZN:=Hd2 JX hs9;clear JX hs9 hlr;gi_wp2;refine(fun(h:∀U,fM (wr.setCell ⟨w.heap.size+1,4,none⟩ (.slice A9 k c9)) (w.heap.size+1+1) 0 [.int .i64 2,.string nm,.int .i64 n',.int .i64 xd,.slice A9 k c9]=U->bodyPost _ _ _ _ _ U)=>h _ rfl) ?_;intro U hU;obtain⟨g1,g2,g3⟩:=ZN.out.1.fin ZN.out.2 (by exact rfl) rfl hU;have z0:=g3 0 _ rfl;have z1:=g3 1 _ rfl;have z2:=g3 2 _ rfl;have z3:=g3 3 _ rfl;have z4:=g3 4 _ rfl;exact⟨rfl,.tuple #[.agg #[.int .i64 2,.string nm,.int .i64 n',.int .i64 xd,.slice A9 k c9],.bool p],by simp[results,go_sem,z0,z1,z2,z3,z4],A9,k,c9,by rw[HP.out],g1,g2⟩
theorem X_(r:aS)(hcn:(dP r).length<=100000)(hrn:(dQ r).length<=100000)(x:aU)(ih:∀y,y∈x.l->NW r y)(h5:x.kind=5):NW r x:=by
 intro M M1 M2 A m c t0 t1 t2 t3 w hs hnm hM hl;refine wid ?_;have hsm:=hs.small;have HM:=Hd hs.len;have hne:¬x.kind=2:=by omega
 have e0:(fH (dP r) (dQ r) x).n=dO (dQ r) x.name:=by rw[BG,if_neg hne,if_pos h5];rfl
 have HX:=Hd (show(fH (dP r) (dQ r) x).n=dO (dQ r) x.name/\okR (dP r) (dQ r) x=(decide (0<=(fH (dP r) (dQ r) x).n)&&x.l.all (okR (dP r) (dQ r)))from⟨e0,by rw[e0,I9,qC,if_neg hne,if_pos h5]⟩);clear hne e0;have II:=Hd (fun y (hy:y∈x.l)=>Nat.le_trans (fK hy) (show dh x.l<=100000 by have:=gV x;omega));have HL:=Hd (show x.l.length<=100000 by have:=gV x;have:=jX x.l;omega);obtain⟨n',hn'⟩:=aC (fH (dP r) (dQ r) x).n;rw[hn']at HX;obtain⟨l,hxl⟩:=aC x.l;rw[hxl]at hs HM ih II HX HL;have IH:=Hd ih;have H:=Hd2 hs hnm;obtain⟨nm,E_⟩:=aC x.name;obtain⟨xd,hxd⟩:=aC x.d;obtain⟨xn,hxn⟩:=aC x.n;obtain⟨ok0,hok0⟩:=aC (decide (0<=n'));rw[E_,hok0]at HX;have Ko:=Hd hok0;rw[h5,E_,hxn,hxd,hn',hxl];obtain⟨W1,hW1,F1⟩:=dR ((((Fr.nil w).a w.heap.size (Af t0 t1 t2 t3) 140).a (w.heap.size+1) [.int .i64 5,.string nm,.int .i64 xn,.int .i64 xd,.slice A m c] 48).a (w.heap.size+1+1) zE 48);have HI:=Hd (ru nm (hnm.r.go F1.bl));obtain⟨W2,hW2⟩:=aC (W1.setCell ⟨w.heap.size+1,2,none⟩ (.int .i64 n'));have F2:=F1.mid (j:=2) (B:= [.int .i64 5,.string nm,.int .i64 xn,.int .i64 xd,.slice A m c]) rfl (.int .i64 n');rw[hW2]at F2;have J0:=Hd (GH.start (M:=M) (XC:= [.int .i64 5,.string nm,.int .i64 n',.int .i64 xd,.slice A m c]) F2 hM);refine op1 F1 ?_;intros;clear hs hnm ih hxl E_ hxd hl h5 hn' hxn F1 F2;refine ent func102 rfl ntmps102 ?_
 gi_wp2_with (first
  |(refine Cl 100 HI.out ?_;rintro e w' ⟨⟨i,rfl,hi⟩,rfl⟩;obtain rfl:n'=i:=by rw[HX.out.1];exact(lV hi).symm
    have hfo:=J0.out.fr;refine op1 hfo ?_;intros;clear hfo hi)
  |fail)
 clear hok0;gi_loopw[6,7,8] (fun v6 v7 i wr=>∃(k:Nat) (p:Bool) (v:Value),k<=m/\v6=.bool p/\v=v7/\i=.int .i64 k/\Hid (p=(ok0&&(l.take k).all (okR (dP r) (dQ r))))/\Hid (GH w W2 wr (Af t0 t1 t2 t3) [.int .i64 5,.string nm,.int .i64 n',.int .i64 xd,.slice A m c] M v ((l.take k).map (fH (dP r) (dQ r))))) (fun _ _ i _=>m-(intOf i).toNat);case atStart=>exact afF
 case round=>
  obtain⟨k,p,v,hk,rfl,rfl,rfl,hp,hJ⟩:=hrel;have hfo:=hJ.out.fr;refine op1 hfo ?_;intros;clear hfo;by_cases hlt:k<m;·exact ad1
  ·have hkm:k=m:=by omega
   clear hk hlt;subst hkm;have JX:=hJ.out;rw[List.take_of_length_le (by rw[HM.out];exact Nat.le_refl _),<-mg]at JX;have hlr:(Ae (dP r) (dQ r) l).length=k:=by rw[mg,List.length_map,HM.out]
   obtain⟨A9,c9,rfl,hs9⟩:=JX.own.sl (by have:=HL.out;rw[HM.out]at this;omega) (fun q hq=>JX.lt3 hq);rw[hlr]at hs9 |-;have HP:=Hd (show okR (dP r) (dQ r) x=p by exact afG);have ZN:=Hd2 JX hs9;clear JX hs9 hlr;gi_wp2;refine(fun(h:∀U,fM (wr.setCell ⟨w.heap.size+1,4,none⟩ (.slice A9 k c9)) (w.heap.size+1+1) 0 [.int .i64 5,.string nm,.int .i64 n',.int .i64 xd,.slice A9 k c9]=U->bodyPost _ _ _ _ _ U)=>h _ rfl) ?_;intro U hU;obtain⟨g1,g2,g3⟩:=ZN.out.1.fin ZN.out.2 (by exact rfl) rfl hU;have z0:=g3 0 _ rfl;have z1:=g3 1 _ rfl;have z2:=g3 2 _ rfl;have z3:=g3 3 _ rfl;have z4:=g3 4 _ rfl;exact⟨rfl,.tuple #[.agg #[.int .i64 5,.string nm,.int .i64 n',.int .i64 xd,.slice A9 k c9],.bool p],by simp[results,go_sem,z0,z1,z2,z3,z4],A9,k,c9,by rw[HP.out],g1,g2⟩
theorem Rl(r:aS)(hcn:(dP r).length<=100000)(hrn:(dQ r).length<=100000)(x:aU):NW r x:=by
 induction x using iY with
 |_ x ih=>
  by_cases h2:x.kind=2;·exact X8 r hcn hrn x ih h2
  ·by_cases h5:x.kind=5;·exact X_ r hcn hrn x ih h5
   exact X7 r hcn hrn x ih h2 h5
end U
theorem aaH(cn rn tn:List ByteArray)(k:bK):(iW cn rn tn k).1=k.1/\(iW cn rn tn k).2.1=k.2.1:=by
 unfold iW;split;·exact⟨rfl,rfl⟩
 split;·exact⟨rfl,rfl⟩
 split<;>exact⟨rfl,rfl⟩
abbrev Fa(k:bK):Value:=.agg #[.int .i64 k.1,.string k.2.1,.int .i64 k.2.2]
theorem aaI{M:List Nat}{w:World}(hnm:JO w M r t0 t1 t2 t3)(h:k.1=1):
 CB 101 #[.agg (Af t0 t1 t2 t3).toArray,Fa k] (.tuple #[Fa (iW (dP r) (dQ r) (jF r) k),.bool (I_ (dP r) (dQ r) (jF r) k)]) w:=by
 refine wid ?_;have HX:=Hd (show iW (dP r) (dQ r) (jF r) k=(k.1,k.2.1,dO (dP r) k.2.1)/\I_ (dP r) (dQ r) (jF r) k=decide (0<=dO (dP r) k.2.1) by unfold iW I_;rw[if_pos h,if_pos h];exact⟨rfl,rfl⟩);obtain⟨kd,nm,n⟩:=k;simp only at h;subst h;obtain⟨n',hn'⟩:=aC (dO (dP r) nm);simp only at HX;rw[hn']at HX;obtain⟨W1,hW1,F1⟩:=dR ((((Fr.nil w).a w.heap.size (Af t0 t1 t2 t3) 140).a (w.heap.size+1) [.int .i64 1,.string nm,.int .i64 n] 116).a (w.heap.size+1+1) [.int .i64 0,.string ⟨#[]⟩,.int .i64 0] 116);have HI:=Hd (ru nm (hnm.c.go F1.bl));have HN:=Hd hn';obtain⟨W2,hW2⟩:=aC (W1.setCell ⟨w.heap.size+1,2,none⟩ (.int .i64 n'));have F2:=F1.mid (j:=2) (B:= [.int .i64 1,.string nm,.int .i64 n]) rfl (.int .i64 n');rw[hW2]at F2;have HF2:=Hd (show Fr w W2 [(w.heap.size,Af t0 t1 t2 t3),(w.heap.size+1, [.int .i64 1,.string nm,.int .i64 n']),(w.heap.size+1+1, [.int .i64 0,.string ⟨#[]⟩,.int .i64 0])]from F2);refine op1 F1 ?_;intros;clear F1 F2 hnm hn';rw[HX.out.1,HX.out.2];refine ent func101 rfl ntmps101 ?_
 gi_wp2_with (first
  |(refine Cl 100 HI.out ?_;rintro e w' ⟨⟨i,rfl,hi⟩,rfl⟩;obtain rfl:n'=i:=by rw[<-HN.out];exact(lV hi).symm
    have hfo:=HF2.out;refine op1 hfo ?_;intros;clear hfo hi)
  |fail)
 have q0:=aF (Mr:= [w.heap.size+1+1]) (b:=w.heap.size+1) (by simp) (HF2.out.aQ 1 0);have q1:=aF (Mr:= [w.heap.size+1+1]) (b:=w.heap.size+1) (by simp) (HF2.out.aQ 1 1);have q2:=aF (Mr:= [w.heap.size+1+1]) (b:=w.heap.size+1) (by simp) (HF2.out.aQ 1 2);obtain⟨wd,hwd⟩:=aC W2.drew;have FD:=hwd▸HF2.out.drew;have yT:=Hd hwd;obtain⟨V5,oM⟩:=aC (fM wd (w.heap.size+1+1) 0 [.int .i64 1,.string nm,.int .i64 n']);have jD:=iO (w:=wd) (b:=w.heap.size+1+1) (vs:= [.int .i64 0,.string ⟨#[]⟩,.int .i64 0]) (us:= [.int .i64 1,.string nm,.int .i64 n']) (fun i u hu=>FD.at_ (w.heap.size+1+1) _ (by simp) i u hu) rfl oM;have HV5:Hid (mP V5 (w.heap.size+1+1) [.int .i64 1,.string nm,.int .i64 n']/\Below w.heap.size w V5):=⟨jD.1,FD.bl.trans (jD.2.bl.mono (by omega))⟩;have JQ:((wd.setCell ⟨w.heap.size+1+1,0,none⟩ (.int .i64 1)).setCell ⟨w.heap.size+1+1,1,none⟩ (.string nm)).setCell ⟨w.heap.size+1+1,2,none⟩ (.int .i64 n')=V5:=oM;have ku:=jD.2.k;clear hwd oM jD;refine aP [w.heap.size+1+1] 5 (by kernel_rfl) (by kernel_rfl) ?_;refine ay 0 ?_;refine ay 1 ?_;refine ay 2 ?_;refine ay 3 ?_;rw[yT.out];refine op1 FD ?_;intros;clear FD;refine eU 4 fun K hK=>?_;gi_wp2;refine⟨ku,?_⟩;clear ku;refine lit ?_;refine iq 1 ?_;refine jW fun K hK K' hK'=>?_;gi_wp2;refine tail_nil _ ?_;simp only[cu];gi_wp2;have z0:=(HV5.out.1 0 _ rfl).1;have z1:=(HV5.out.1 1 _ rfl).1;have z2:=(HV5.out.1 2 _ rfl).1;exact⟨rfl,.tuple #[.agg #[.int .i64 1,.string nm,.int .i64 n'],.bool (decide (0<=n'))],by simp[results,go_sem,z0,z1,z2],rfl,HV5.out.2⟩
theorem aaJ{M:List Nat}{w:World}(hnm:JO w M r t0 t1 t2 t3)(h:k.1=2):
 CB 101 #[.agg (Af t0 t1 t2 t3).toArray,Fa k] (.tuple #[Fa (iW (dP r) (dQ r) (jF r) k),.bool (I_ (dP r) (dQ r) (jF r) k)]) w:=by
 refine wid ?_;have HX:=Hd (show iW (dP r) (dQ r) (jF r) k=(k.1,k.2.1,dO (dQ r) k.2.1)/\I_ (dP r) (dQ r) (jF r) k=decide (0<=dO (dQ r) k.2.1) by unfold iW I_;rw[if_neg (show ¬k.1=1 by omega),if_pos h,if_neg (show ¬k.1=1 by omega),if_pos h];exact⟨rfl,rfl⟩);obtain⟨kd,nm,n⟩:=k;simp only at h;subst h;obtain⟨n',hn'⟩:=aC (dO (dQ r) nm);simp only at HX;rw[hn']at HX;obtain⟨W1,hW1,F1⟩:=dR ((((Fr.nil w).a w.heap.size (Af t0 t1 t2 t3) 140).a (w.heap.size+1) [.int .i64 2,.string nm,.int .i64 n] 116).a (w.heap.size+1+1) [.int .i64 0,.string ⟨#[]⟩,.int .i64 0] 116);have HI:=Hd (ru nm (hnm.r.go F1.bl));have HN:=Hd hn';obtain⟨W2,hW2⟩:=aC (W1.setCell ⟨w.heap.size+1,2,none⟩ (.int .i64 n'));have F2:=F1.mid (j:=2) (B:= [.int .i64 2,.string nm,.int .i64 n]) rfl (.int .i64 n');rw[hW2]at F2;have HF2:=Hd (show Fr w W2 [(w.heap.size,Af t0 t1 t2 t3),(w.heap.size+1, [.int .i64 2,.string nm,.int .i64 n']),(w.heap.size+1+1, [.int .i64 0,.string ⟨#[]⟩,.int .i64 0])]from F2);refine op1 F1 ?_;intros;clear F1 F2 hnm hn';rw[HX.out.1,HX.out.2];refine ent func101 rfl ntmps101 ?_
 gi_wp2_with (first
  |(refine Cl 100 HI.out ?_;rintro e w' ⟨⟨i,rfl,hi⟩,rfl⟩;obtain rfl:n'=i:=by rw[<-HN.out];exact(lV hi).symm
    have hfo:=HF2.out;refine op1 hfo ?_;intros;clear hfo hi)
  |fail)
 have q0:=aF (Mr:= [w.heap.size+1+1]) (b:=w.heap.size+1) (by simp) (HF2.out.aQ 1 0);have q1:=aF (Mr:= [w.heap.size+1+1]) (b:=w.heap.size+1) (by simp) (HF2.out.aQ 1 1);have q2:=aF (Mr:= [w.heap.size+1+1]) (b:=w.heap.size+1) (by simp) (HF2.out.aQ 1 2);obtain⟨wd,hwd⟩:=aC W2.drew;have FD:=hwd▸HF2.out.drew;have yT:=Hd hwd;obtain⟨V5,oM⟩:=aC (fM wd (w.heap.size+1+1) 0 [.int .i64 2,.string nm,.int .i64 n']);have jD:=iO (w:=wd) (b:=w.heap.size+1+1) (vs:= [.int .i64 0,.string ⟨#[]⟩,.int .i64 0]) (us:= [.int .i64 2,.string nm,.int .i64 n']) (fun i u hu=>FD.at_ (w.heap.size+1+1) _ (by simp) i u hu) rfl oM;have HV5:Hid (mP V5 (w.heap.size+1+1) [.int .i64 2,.string nm,.int .i64 n']/\Below w.heap.size w V5):=⟨jD.1,FD.bl.trans (jD.2.bl.mono (by omega))⟩;have JQ:((wd.setCell ⟨w.heap.size+1+1,0,none⟩ (.int .i64 2)).setCell ⟨w.heap.size+1+1,1,none⟩ (.string nm)).setCell ⟨w.heap.size+1+1,2,none⟩ (.int .i64 n')=V5:=oM;have ku:=jD.2.k;clear hwd oM jD;refine aP [w.heap.size+1+1] 5 (by kernel_rfl) (by kernel_rfl) ?_;refine ay 0 ?_;refine ay 1 ?_;refine ay 2 ?_;refine ay 3 ?_;rw[yT.out];refine op1 FD ?_;intros;clear FD;refine eU 4 fun K hK=>?_;gi_wp2;refine⟨ku,?_⟩;clear ku;refine lit ?_;refine iq 1 ?_;refine jW fun K hK K' hK'=>?_;gi_wp2;refine tail_nil _ ?_;simp only[cu];gi_wp2;have z0:=(HV5.out.1 0 _ rfl).1;have z1:=(HV5.out.1 1 _ rfl).1;have z2:=(HV5.out.1 2 _ rfl).1;exact⟨rfl,.tuple #[.agg #[.int .i64 2,.string nm,.int .i64 n'],.bool (decide (0<=n'))],by simp[results,go_sem,z0,z1,z2],rfl,HV5.out.2⟩
theorem aaK{M:List Nat}{w:World}(hnm:JO w M r t0 t1 t2 t3)(h:k.1=5):
 CB 101 #[.agg (Af t0 t1 t2 t3).toArray,Fa k] (.tuple #[Fa (iW (dP r) (dQ r) (jF r) k),.bool (I_ (dP r) (dQ r) (jF r) k)]) w:=by
 refine wid ?_;have HX:=Hd (show iW (dP r) (dQ r) (jF r) k=(k.1,k.2.1,dO (jF r) k.2.1)/\I_ (dP r) (dQ r) (jF r) k=decide (0<=dO (jF r) k.2.1) by unfold iW I_;rw[if_neg (show ¬k.1=1 by omega),if_neg (show ¬k.1=2 by omega),if_pos h,if_neg (show ¬k.1=1 by omega),if_neg (show ¬k.1=2 by omega),if_pos h];exact⟨rfl,rfl⟩);obtain⟨kd,nm,n⟩:=k;simp only at h;subst h;obtain⟨n',hn'⟩:=aC (dO (jF r) nm);simp only at HX;rw[hn']at HX;obtain⟨W1,hW1,F1⟩:=dR ((((Fr.nil w).a w.heap.size (Af t0 t1 t2 t3) 140).a (w.heap.size+1) [.int .i64 5,.string nm,.int .i64 n] 116).a (w.heap.size+1+1) [.int .i64 0,.string ⟨#[]⟩,.int .i64 0] 116);have HI:=Hd (ru nm (hnm.t.go F1.bl));have HN:=Hd hn';obtain⟨W2,hW2⟩:=aC (W1.setCell ⟨w.heap.size+1,2,none⟩ (.int .i64 n'));have F2:=F1.mid (j:=2) (B:= [.int .i64 5,.string nm,.int .i64 n]) rfl (.int .i64 n');rw[hW2]at F2;have HF2:=Hd (show Fr w W2 [(w.heap.size,Af t0 t1 t2 t3),(w.heap.size+1, [.int .i64 5,.string nm,.int .i64 n']),(w.heap.size+1+1, [.int .i64 0,.string ⟨#[]⟩,.int .i64 0])]from F2);refine op1 F1 ?_;intros;clear F1 F2 hnm hn';rw[HX.out.1,HX.out.2];refine ent func101 rfl ntmps101 ?_
 gi_wp2_with (first
  |(refine Cl 100 HI.out ?_;rintro e w' ⟨⟨i,rfl,hi⟩,rfl⟩;obtain rfl:n'=i:=by rw[<-HN.out];exact(lV hi).symm
    have hfo:=HF2.out;refine op1 hfo ?_;intros;clear hfo hi)
  |fail)
 have q0:=aF (Mr:= [w.heap.size+1+1]) (b:=w.heap.size+1) (by simp) (HF2.out.aQ 1 0);have q1:=aF (Mr:= [w.heap.size+1+1]) (b:=w.heap.size+1) (by simp) (HF2.out.aQ 1 1);have q2:=aF (Mr:= [w.heap.size+1+1]) (b:=w.heap.size+1) (by simp) (HF2.out.aQ 1 2);obtain⟨wd,hwd⟩:=aC W2.drew;have FD:=hwd▸HF2.out.drew;have yT:=Hd hwd;obtain⟨V5,oM⟩:=aC (fM wd (w.heap.size+1+1) 0 [.int .i64 5,.string nm,.int .i64 n']);have jD:=iO (w:=wd) (b:=w.heap.size+1+1) (vs:= [.int .i64 0,.string ⟨#[]⟩,.int .i64 0]) (us:= [.int .i64 5,.string nm,.int .i64 n']) (fun i u hu=>FD.at_ (w.heap.size+1+1) _ (by simp) i u hu) rfl oM;have HV5:Hid (mP V5 (w.heap.size+1+1) [.int .i64 5,.string nm,.int .i64 n']/\Below w.heap.size w V5):=⟨jD.1,FD.bl.trans (jD.2.bl.mono (by omega))⟩;have JQ:((wd.setCell ⟨w.heap.size+1+1,0,none⟩ (.int .i64 5)).setCell ⟨w.heap.size+1+1,1,none⟩ (.string nm)).setCell ⟨w.heap.size+1+1,2,none⟩ (.int .i64 n')=V5:=oM;have ku:=jD.2.k;clear hwd oM jD;refine aP [w.heap.size+1+1] 5 (by kernel_rfl) (by kernel_rfl) ?_;refine ay 0 ?_;refine ay 1 ?_;refine ay 2 ?_;refine ay 3 ?_;rw[yT.out];refine op1 FD ?_;intros;clear FD;refine eU 4 fun K hK=>?_;gi_wp2;refine⟨ku,?_⟩;clear ku;refine lit ?_;refine iq 1 ?_;refine jW fun K hK K' hK'=>?_;gi_wp2;refine tail_nil _ ?_;simp only[cu];gi_wp2;have z0:=(HV5.out.1 0 _ rfl).1;have z1:=(HV5.out.1 1 _ rfl).1;have z2:=(HV5.out.1 2 _ rfl).1;exact⟨rfl,.tuple #[.agg #[.int .i64 5,.string nm,.int .i64 n'],.bool (decide (0<=n'))],by simp[results,go_sem,z0,z1,z2],rfl,HV5.out.2⟩
theorem aaL{w:World}(h1:¬k.1=1)(h2:¬k.1=2)(h5:¬k.1=5):
 CB 101 #[.agg (Af t0 t1 t2 t3).toArray,Fa k] (.tuple #[Fa (iW (dP r) (dQ r) (jF r) k),.bool (I_ (dP r) (dQ r) (jF r) k)]) w:=by
 refine wid ?_;have e1:iW (dP r) (dQ r) (jF r) k=k:=by unfold iW;rw[if_neg h1,if_neg h2,if_neg h5]
 have e2:I_ (dP r) (dQ r) (jF r) k=true:=by unfold I_;rw[if_neg h1,if_neg h2,if_neg h5]
 rw[e1,e2];obtain⟨kd,nm,n⟩:=k;have k1:(kd==1)=false:=beq_eq_false_iff_ne.2 h1;have k2:(kd==2)=false:=beq_eq_false_iff_ne.2 h2;have k5:(kd==5)=false:=beq_eq_false_iff_ne.2 h5;obtain⟨W1,hW1,F1⟩:=dR ((((Fr.nil w).a w.heap.size (Af t0 t1 t2 t3) 140).a (w.heap.size+1) [.int .i64 kd,.string nm,.int .i64 n] 116).a (w.heap.size+1+1) [.int .i64 0,.string ⟨#[]⟩,.int .i64 0] 116);have HF:=Hd F1;refine op1 F1 ?_;intros;clear F1 e1 e2 h1 h2 h5;refine ent func101 rfl ntmps101 ?_;gi_wp2;refine(fun(h:∀U,fM W1 (w.heap.size+1+1) 0 [.int .i64 kd,.string nm,.int .i64 n]=U->bodyPost _ _ _ _ _ U)=>h _ rfl) ?_;intro U hU;have jD:=iO (w:=W1) (b:=w.heap.size+1+1) (vs:= [.int .i64 0,.string ⟨#[]⟩,.int .i64 0]) (us:= [.int .i64 kd,.string nm,.int .i64 n]) (fun i u hu=>HF.out.at_ (w.heap.size+1+1) _ (by simp) i u hu) rfl hU;have z0:=(jD.1 0 _ rfl).1;have z1:=(jD.1 1 _ rfl).1;have z2:=(jD.1 2 _ rfl).1;exact⟨rfl,.tuple #[.agg #[.int .i64 kd,.string nm,.int .i64 n],.bool true],by simp[results,go_sem,z0,z1,z2],rfl,HF.out.bl.trans (jD.2.bl.mono (by omega))⟩
theorem U4{M:List Nat}{w:World}(hnm:JO w M r t0 t1 t2 t3):
 CB 101 #[.agg (Af t0 t1 t2 t3).toArray,Fa k] (.tuple #[Fa (iW (dP r) (dQ r) (jF r) k),.bool (I_ (dP r) (dQ r) (jF r) k)]) w:=by
 by_cases h1:k.1=1;·exact aaI hnm h1
 ·by_cases h2:k.1=2;·exact aaJ hnm h2
  by_cases h5:k.1=5;·exact aaK hnm h5
  exact aaL h1 h2 h5
end
end Go.Proofs.YtlcgbfkdnmdigaaGreatDoor
