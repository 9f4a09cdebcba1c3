/- Lemmas and walks; no statement is proved here. -/
import Derived.Test.YtlcgbfkdnmdigaaGreatDoorM42
set_option linter.unusedVariables false
set_option linter.unusedSimpArgs false
set_option maxRecDepth 20000
set_option maxHeartbeats 6000000
namespace Go.Proofs.YtlcgbfkdnmdigaaGreatDoor
open Go.Proofs.Tryz
theorem agL{p:Prop}(h:p:=by
 gi_wp2_with (first
  |(refine Cl 77 HX.out ?_;rintro e w3 ⟨u,rfl,z2,hb2⟩;obtain⟨p2,q2,A2,n2,c2,B2,m2,d2,rfl,qc⟩:=QC.of z2;have FO:=F.out.go hb2;have o2:=aW FO;have G:=Hd2 FO qc;clear z2 FO qc hb2)
  |fail)
 exact aee):p:=h
theorem aee{p:Prop}(h:p:=by
 obtain⟨wF,hwF,t0,t1,t2,t3,hQ,bF⟩:=nN (M:=M) (G.out.1.aQ 2 0) (G.out.1.aQ 2 1) (G.out.1.aQ 2 2) (G.out.1.aQ 2 3) (x:=_) G.out.2.num.sl G.out.2.den.sl G.out.2.num.neg G.out.2.den.neg G.out.1.bl (by omega);try rw[hwF]
 exact agR):p:=h
theorem aem{p:Prop}(h:p:=by
 gi_wp2_with (first
  |(refine Cl 73 HX.out ?_;rintro e w2 ⟨rfl,hb2⟩;obtain⟨b1,o1,A1,n1,c1,A2,n2,c2,rfl,x0,x1,x2,x3,qc⟩:=(HS.out.1.go hb2).PI HS.out.2.1;try simp only[show 2*4=8 from rfl,show 3*4=12 from rfl,Nat.zero_mul,Nat.one_mul,Nat.add_zero]at x0 x1 x2 x3
    have FO:=F.out.go hb2;have o2:=aW FO;have G:=Hd2 FO qc;clear qc FO hb2)
  |fail)
 obtain⟨wF,hwF,t0,t1,t2,t3,hQ,bF⟩:=nN (M:=M) (G.out.1.aQ 2 0) (G.out.1.aQ 2 1) (G.out.1.aQ 2 2) (G.out.1.aQ 2 3) (x:=qa) G.out.2.num.sl G.out.2.den.sl G.out.2.num.neg G.out.2.den.neg G.out.1.bl (by omega);try rw[hwF]
 exact⟨rfl,.agg #[.bool (aG qa.num),.slice A1 n1 c1,.bool (aG qa.den),.slice A2 n2 c2],by simp[results,go_sem,t0,t1,t2,t3],_,rfl,hQ,bF⟩):p:=h
theorem aen{p:Prop}(h:p:=by
 gi_wp2_with (first
  |(refine Cl 73 HX.out ?_;rintro e w2 ⟨rfl,hb2⟩;obtain⟨b1,o1,A1,n1,c1,A2,n2,c2,rfl,x0,x1,x2,x3,qc⟩:=(HS.out.1.go hb2).PI HS.out.2.2;try simp only[show 2*4=8 from rfl,show 3*4=12 from rfl,Nat.zero_mul,Nat.one_mul,Nat.add_zero]at x0 x1 x2 x3
    have FO:=F.out.go hb2;have o2:=aW FO;have G:=Hd2 FO qc;clear qc FO hb2)
  |fail)
 obtain⟨wF,hwF,t0,t1,t2,t3,hQ,bF⟩:=nN (M:=M) (G.out.1.aQ 2 0) (G.out.1.aQ 2 1) (G.out.1.aQ 2 2) (G.out.1.aQ 2 3) (x:=qb) G.out.2.num.sl G.out.2.den.sl G.out.2.num.neg G.out.2.den.neg G.out.1.bl (by omega);try rw[hwF]
 exact⟨rfl,.agg #[.bool (aG qb.num),.slice A1 n1 c1,.bool (aG qb.den),.slice A2 n2 c2],by simp[results,go_sem,t0,t1,t2,t3],_,rfl,hQ,bF⟩):p:=h
theorem afS{p:Prop}(h:p:=by rw[<-hs.len,List.length_map];exact(List.getElem?_eq_some_iff.1 h1).1):p:=h
variable {l:List Int}{k:Nat}{ls:List Rt}{q a b:Rt}{s:Int}{y:aU}{I:Fv}
section
open Go.RowKit Go.Shelf
attribute [local go_sem] Oper.semAt_some
def Ey(xs:List bW)(l:List Int):Int:=((xs.zip l).map fun p=>p.2*p.1.2.1).sum
theorem Na{M:List Nat}{A B:Option Addr}{n c m d:Nat}{xs:List bW}{w:World}(hM:b_ M w)(hx:Sl bW w M A n c xs)(hs:Sl Int w M B m d l)(hi:∀x,x∈xs->mQ x)(hc:dV xs l=true)(hl:l.length<=70):
 Calls prog 77 #[.slice A n c,.slice B m d] w fun e w'=>∃u,e=.returned u/\QW w' M u (eP (Ey xs l) 1)/\Below w.heap.size w w':=by
 refine wid ?_;unfold dV at hc;rw[Bool.and_eq_true]at hc;obtain⟨W1,hW1,F1⟩:=dR ((Fr.nil w).a w.heap.size [.bool false,.slice none 0 0,.bool false,.slice none 0 0] 42);have F:=Hd F1;have o1:=aW F1;have hmn:m=n:=by rw[<-hs.len,<-hx.len];exact of_decide_eq_true hc.1
 subst hmn;have adY:m<=70:=by rw[<-hs.len];exact hl
 have H:=h_ (hx.go F1.bl) hx.len (hs.go F1.bl) hs.len;have HB:=Hd2 (hM.le F1.bl.size) ((hM.le F1.bl.size).cons (F1.mJ 0));have HC:=Hd2 hi (List.all_eq_true.1 hc.2);clear hx hs hi hc hM F1 hl;refine ent func77 rfl ntmps77 ?_;gi_wp2;gi_loopw[5,10] (fun s i wr=>∃(k:Nat) (S:Int),k<=m/\s=.int .i64 S/\i=.int .i64 k/\W1=wr/\(0<=S/\S<=104857600*(k:Int))/\Hid (S+(((xs.zip l).map fun p=>p.2*p.1.2.1).drop k).sum=Ey xs l)) (fun _ i _=>m-(intOf i).toNat);case atStart=>exact⟨0,0,Nat.zero_le _,rfl,rfl,rfl,by simp,Hd (by simp[Ey])⟩
 case round=>
  obtain⟨k,S,hk,rfl,rfl,rfl,hSb,hS⟩:=hrel;by_cases hlt:k<m
  ·obtain⟨x,hx⟩:=dW xs k (by rw[H.out.2.1];exact hlt);obtain⟨b,o,y,rfl,c0,-,-,hy⟩:=H.out.2.2.1.pR hlt;obtain⟨b2,o2,rfl,-,x1,-⟩:=H.out.1.NQ hx;have hio:=HC.out.1 x (List.mem_of_getElem? hx);have hco:=HC.out.2 (x,y) (List.mem_of_getElem? (oG hx hy));unfold countB at hco;simp only[Bool.and_eq_true]at hco;have hy0:=of_decide_eq_true hco.1;have hy1:=of_decide_eq_true hco.2;obtain⟨t,ht⟩:=aC x.2.1;rw[ht]at x1;have hmb:=JI (x:=y) (y:=t) (a:=100) (b:=1048576) ⟨hy0,by have:=hio.2.2.2;omega⟩ ⟨by rw[<-ht];exact hio.1,by rw[<-ht];exact hio.2.1⟩;have hS2:=Hd (show S+y*t+(((xs.zip l).map fun p=>p.2*p.1.2.1).drop (k+1)).sum=Ey xs l by
    have h:=hS.out;have hz:((xs.zip l).map fun p=>p.2*p.1.2.1)[k]?=some (y*x.2.1):=by rw[List.getElem?_map,oG hx hy];rfl
    obtain⟨hkl,e⟩:=List.getElem?_eq_some_iff.1 hz;rw[List.drop_eq_getElem_cons hkl,List.sum_cons,e,ht]at h;omega)
   obtain⟨Y,hY⟩:=aC (y*t);have hw:IntKind.i64.wrap (y*t)=Y:=by rw[IntKind.wrap_i64,hY];rw[hY]at hmb;omega
   rw[hY]at hmb hS2;clear hS hx hy hio hco hy0 hy1 ht hY;gi_wp2;exact⟨⟨k+1,S+Y,by omega,by go_num,by go_num,trivial,by omega,hS2⟩,by simp[intOf];omega⟩
  ·obtain rfl:k=m:=by omega
   have hE:S=Ey xs l:=by have h:=hS.out;rw[List.drop_of_length_le (by rw[List.length_map,List.length_zip,H.out.2.1,H.out.2.2.2];omega)]at h;simpa using h
   have HI:=Hd2 (show i64 S by unfold i64;omega) hE;clear hk hlt hS hE
   gi_wp2_with (first
    |(have g:=HG.out;clear g;refine Cl 70 HG.out ?_;rintro e w3 ⟨u,rfl,z2,hb2⟩;obtain⟨p2,q2,A2,n2,c2,B2,m2,d2,rfl,qc⟩:=QC.of z2;have FO:=F.out.go hb2;have o2:=aW FO;have G:=Hd2 FO qc;clear z2 FO qc hb2)
    |(refine Cl 21 (uP (M:=w.heap.size::M) (n:=S) (d:=1) HB.out.2 HI.out.1 (by unfold i64;omega) (by omega)) ?_;rintro e w2 ⟨u,rfl,z2,hb2⟩;have HG:=Hd (wJ (M:=w.heap.size::M) (HB.out.2.le hb2.size) z2);have FO:=F.out.go hb2;have o2:=aW FO;replace F:=Hd FO;clear FO z2 hb2)
    |fail)
   obtain⟨wF,hwF,t0,t1,t2,t3,hQ,bF⟩:=nN (M:=M) (G.out.1.aQ 0 0) (G.out.1.aQ 0 1) (G.out.1.aQ 0 2) (G.out.1.aQ 0 3) (x:=eP S 1) G.out.2.num.sl G.out.2.den.sl G.out.2.num.neg G.out.2.den.neg G.out.1.bl (Nat.le_refl _);try rw[hwF]
   rw[HI.out.2]at hQ;exact aer
theorem Sl.qat{M:List Nat}{w:World}{A:Option Addr}{n c:Nat}(h:Sl fC w M A n c (ls.map jd))(hk:ls[k]?=some q):
 ∃b o A1 n1 c1 A2 n2 c2,A=some ⟨b,o,none⟩/\w.cell? ⟨b,o+k*4,none⟩=some (.bool (aG q.num))/\w.cell? ⟨b,o+k*4+1,none⟩=some (.slice A1 n1 c1)/\w.cell? ⟨b,o+k*4+2,none⟩=some (.bool (aG q.den))/\w.cell? ⟨b,o+k*4+3,none⟩=some (.slice A2 n2 c2)/\QW w M (.agg #[.bool (aG q.num),.slice A1 n1 c1,.bool (aG q.den),.slice A2 n2 c2]) q:=by
 obtain⟨b,o,A1,n1,c1,A2,n2,c2,rfl,x0,x1,x2,x3,s1,s2⟩:=h.MG (x:=jd q) (by rw[List.getElem?_map,hk];rfl);exact⟨b,o,A1,n1,c1,A2,n2,c2,rfl,x0,x1,x2,x3,A1,n1,c1,A2,n2,c2,rfl,s1,s2⟩
theorem Y9(x y:Rt): -1<=rW x y/\rW x y<=1:=by unfold rW;split<;>(try split)<;>omega
theorem Aa{M:List Nat}{A:Option Addr}{n c:Nat}{w:World}(hM:b_ M w)(hs:Sl fC w M A n c (ls.map jd))(h0:ls[0]?=some a)(h1:ls[1]?=some b)(oa:a.ok)(ob:b.ok)(hf:Fine a b)(hsg:s=1\/s= -1):
 CB 73 #[.slice A n c,.int .i64 s] (.bool (decide (s*rW a b<=0))) w:=by
 refine wid ?_;have hsm:=hs.small;have hn1:1<n:=by exact afS
 have hn0:0<n:=by omega
 have hn2:(1:Int)<(n:Int):=by omega
 have hn3:(1:Int).toNat<n:=hn1;have hn4:¬n<=1:=by omega
 have hb0:Below w.heap.size w w.drew:=(Below.refl _ _).drew;obtain⟨b1,o1,A1,n1,c1,A2,n2,c2,rfl,x0,x1,x2,x3,qa⟩:=hs.qat h0;obtain⟨b2,o2,A3,n3,c3,A4,n4,c4,e2,y0,y1,y2,y3,qb⟩:=hs.qat h1;cases e2;simp only[Nat.zero_mul,Nat.add_zero]at x0 x1 x2 x3;simp only[Nat.one_mul]at y0 y1 y2 y3;have u0:=ah x0;have u1:=ah x1;have u2:=ah x2;have u3:=ah x3;have v0:=ah y0;have v1:=ah y1;have v2:=ah y2;have v3:=ah y3;have X:=WZ (w:=w.drew) (hM.le (Nat.le_refl _)) (qa.go hb0) (qb.go hb0) oa ob hf;obtain⟨z,hz⟩:=aC (rW a b);rw[hz]at X |-;have HX:=Hd X;clear x0 x1 x2 x3 y0 y1 y2 y3 qa qb X hs h0 h1 oa ob hf hb0;have hzb: -1<=z/\z<=1:=by rw[<-hz];exact Y9 _ _
 clear hz;obtain⟨Z,hZ⟩:=aC (s*z);have hw:IntKind.i64.wrap (s*z)=Z:=by rw[IntKind.wrap_i64,hZ];rcases hsg with rfl|rfl<;>omega
 rw[hZ];clear hZ hsg hzb hM;refine ent func73 rfl ntmps73 ?_;gi_wp2;refine ak [] [0,1,2,3,4,5,6,7,8,9,10,11] (by kernel_rfl) (by kernel_rfl) ?_;refine eH ?_;refine aH fun K hK=>aA rfl rfl wy fun K' hK'=>?_;gi_wp2;refine Cl 129 HX.out ?_;rintro e w2 ⟨rfl,hb2⟩;have HB:=Hd ((Below.refl w.heap.size w).drew.trans hb2);refine hK' _ _ ⟨?_,hK _ _ ?_⟩;clear hK' K' hK K;·exact Keeps.of_below hb2 _
 clear hb2;refine lit ?_;refine eH ?_;refine aK ?_;refine lit ?_
 gi_wp2_with (first
  |(refine Cl 32 (rP _) ?_;rintro e w3 ⟨rfl,rfl⟩)
  |fail)
 go_ret;exact⟨rfl,HB.out⟩
abbrev exV(x:aU)(B:Option Addr)(m d:Nat):List Value:= [.int .i64 x.kind,.string x.name,.int .i64 x.n,.int .i64 x.d,.slice B m d]
def Au(M:List Nat)(q:Rt)(w:World)(e:Ending)(w':World):Prop:=∃u,e=.returned u/\QW w' M u q/\Below w.heap.size w w'
section
variable {M:List Nat}{r:aS}{s1 s2 s3 s4 s5 s6 s7:dK}{c:dS}{t1 t2 t3 t4:dK}{i:Nat}{x:aU}{A B:Option Addr}{n cp m d:Nat}{w:World}
theorem Y_(hM:b_ M w)(hn:i64 x.n)(hd:i64 x.d)(h0:x.d≠0):
 Calls prog 74 #[.agg (pY r s1 s2 s3 s4 s5 s6 s7 i t1 t2 t3 t4).toArray,.agg (exV x B m d).toArray,.slice A n cp] w (Au M (eP x.n x.d) w):=by
 refine wid ?_;obtain⟨W1,hW1,F1⟩:=dR ((((Fr.nil w).a w.heap.size (pY r s1 s2 s3 s4 s5 s6 s7 i t1 t2 t3 t4) 78).a (w.heap.size+1) (exV x B m d) 48).a (w.heap.size+2) [.bool false,.slice none 0 0,.bool false,.slice none 0 0] 42);have F:=Hd F1;have o1:=aW F1;have HM:=Hd2 (hM.le F1.bl.size) ((hM.le F1.bl.size).cons (F1.mJ 2));have HX:=Hd (uP (M:=(w.heap.size+2)::M) HM.out.2 hn hd h0);clear F1 hM hn hd h0;refine ent func74 rfl ntmps74 ?_
 gi_wp2_with (first
  |(have g:=HG.out;clear g;refine Cl 70 HG.out ?_;rintro e w3 ⟨u,rfl,z2,hb2⟩;obtain⟨p2,q2,A2,n2,c2,B2,m2,d2,rfl,qc⟩:=QC.of z2;have FO:=F.out.go hb2;have o2:=aW FO;have G:=Hd2 FO qc;clear z2 FO qc hb2)
  |(refine Cl 21 HX.out ?_;rintro e w2 ⟨u,rfl,z2,hb2⟩;have HG:=Hd (wJ (M:=(w.heap.size+2)::M) (HM.out.2.le hb2.size) z2);have FO:=F.out.go hb2;have o2:=aW FO;replace F:=Hd FO;clear FO z2 hb2)
  |fail)
 exact aee
theorem Za(hM:b_ M w)(hr:dG w M r s1 s2 s3 s4 s5 s6 s7)(hc:jE w M c t1 t2 t3 t4)(hi:∀x,x∈r.bonus->mQ x)(hb:dV r.bonus c.bonus=true)(hl:c.bonus.length<=70):
 Calls prog 76 #[.agg (pY r s1 s2 s3 s4 s5 s6 s7 i t1 t2 t3 t4).toArray,.agg (exV x B m d).toArray,.slice A n cp] w (Au M (eP (Ey r.bonus c.bonus) 1) w):=by
 refine wid ?_;obtain⟨W1,hW1,F1⟩:=dR ((((Fr.nil w).a w.heap.size (pY r s1 s2 s3 s4 s5 s6 s7 i t1 t2 t3 t4) 78).a (w.heap.size+1) (exV x B m d) 48).a (w.heap.size+2) [.bool false,.slice none 0 0,.bool false,.slice none 0 0] 42);have F:=Hd F1;have o1:=aW F1;have HM:=Hd2 (hM.le F1.bl.size) ((hM.le F1.bl.size).cons (F1.mJ 2));have HX:=Hd (Na (M:=(w.heap.size+2)::M) HM.out.2 ((hr.bonus.more (b:=w.heap.size+2) (by omega)).go F1.bl) ((hc.bonus.more (b:=w.heap.size+2) (by omega)).go F1.bl) hi hb hl);clear F1 hM hr hc hi hb hl;refine ent func76 rfl ntmps76 ?_;exact agL
theorem Zb(hM:b_ M w)(hr:dG w M r s1 s2 s3 s4 s5 s6 s7)(hc:jE w M c t1 t2 t3 t4)(hi:∀x,x∈r.malus->mQ x)(hb:dV r.malus c.malus=true)(hl:c.malus.length<=70):
 Calls prog 78 #[.agg (pY r s1 s2 s3 s4 s5 s6 s7 i t1 t2 t3 t4).toArray,.agg (exV x B m d).toArray,.slice A n cp] w (Au M (eP (Ey r.malus c.malus) 1) w):=by
 refine wid ?_;obtain⟨W1,hW1,F1⟩:=dR ((((Fr.nil w).a w.heap.size (pY r s1 s2 s3 s4 s5 s6 s7 i t1 t2 t3 t4) 78).a (w.heap.size+1) (exV x B m d) 48).a (w.heap.size+2) [.bool false,.slice none 0 0,.bool false,.slice none 0 0] 42);have F:=Hd F1;have o1:=aW F1;have HM:=Hd2 (hM.le F1.bl.size) ((hM.le F1.bl.size).cons (F1.mJ 2));have HX:=Hd (Na (M:=(w.heap.size+2)::M) HM.out.2 ((hr.malus.more (b:=w.heap.size+2) (by omega)).go F1.bl) ((hc.malus.more (b:=w.heap.size+2) (by omega)).go F1.bl) hi hb hl);clear F1 hM hr hc hi hb hl;refine ent func78 rfl ntmps78 ?_;exact agL
end
section
variable {M:List Nat}{r:aS}{s1 s2 s3 s4 s5 s6 s7:dK}{c:dS}{t1 t2 t3 t4:dK}{i:Nat}{x:aU}{A B:Option Addr}{n cp m d:Nat}{w:World}
theorem Zc{y:bT}(hM:b_ M w)(hr:dG w M r s1 s2 s3 s4 s5 s6 s7)(hc:jE w M c t1 t2 t3 t4)(hg:f_ r i c)(hm:eY c.marks=0)(hx:x.n=k)(hy:r.aT[k]?=some y)(hl:c.marks[k]?=some l):
 Calls prog 75 #[.agg (pY r s1 s2 s3 s4 s5 s6 s7 i t1 t2 t3 t4).toArray,.agg (exV x B m d).toArray,.slice A n cp] w (Au M (qJ y l) w):=by
 refine wid ?_;obtain⟨W1,hW1,F1⟩:=dR ((((Fr.nil w).a w.heap.size (pY r s1 s2 s3 s4 s5 s6 s7 i t1 t2 t3 t4) 78).a (w.heap.size+1) (exV x B m d) 48).a (w.heap.size+2) [.bool false,.slice none 0 0,.bool false,.slice none 0 0] 42);have F:=Hd F1;have o1:=aW F1;have X:=Ac ((hr.moreL [w.heap.size+2] (fun q hq=>by simp at hq;omega)).go F1.bl) ((hc.moreL [w.heap.size+2] (fun q hq=>by simp at hq;omega)).go F1.bl) hg hm hy hl ((hM.le F1.bl.size).cons (F1.mJ 2));rw[<-hx]at X;have HX:=Hd X;clear X hx F1 hM hr hc hg hm hy hl;refine ent func75 rfl ntmps75 ?_
 gi_wp2_with (first
  |(refine Cl 34 HX.out ?_;rintro e w3 ⟨u,rfl,z2,hb2⟩;obtain⟨p2,q2,A2,n2,c2,B2,m2,d2,rfl,qc⟩:=QC.of z2;have FO:=F.out.go hb2;have o2:=aW FO;have G:=Hd2 FO qc;clear z2 FO qc hb2)
  |fail)
 exact aee
theorem Zd(hM:b_ M w)(hs:Sl fC w M A n cp (ls.map jd))(h0:ls[0]?=some a)(h1:ls[1]?=some b)(oa:a.ok)(ob:b.ok)(hf:Fine a b):
 Calls prog 80 #[.agg (pY r s1 s2 s3 s4 s5 s6 s7 i t1 t2 t3 t4).toArray,.agg (exV x B m d).toArray,.slice A n cp] w (Au M (Js a b) w):=by
 refine wid ?_;obtain⟨W1,hW1,F1⟩:=dR ((((Fr.nil w).a w.heap.size (pY r s1 s2 s3 s4 s5 s6 s7 i t1 t2 t3 t4) 78).a (w.heap.size+1) (exV x B m d) 48).a (w.heap.size+2) [.bool false,.slice none 0 0,.bool false,.slice none 0 0] 42);have F:=Hd F1;have hsm:=hs.small;have hn1:1<n:=by exact afS
 have hn0:0<n:=by omega
 have hn2:(1:Int)<(n:Int):=by omega
 have hM2:b_ ((w.heap.size+2)::M) W1:=(hM.le F1.bl.size).cons (F1.mJ 2);have hs2:=(hs.more (b:=w.heap.size+2) (by omega)).go F1.bl;have hb0:Below W1.heap.size W1 W1.drew:=(Below.refl _ _).drew;obtain⟨b1,o1,A1,n1,c1,A2,n2,c2,rfl,x0,x1,x2,x3,qa⟩:=hs2.qat h0;obtain⟨b2,o2,A3,n3,c3,A4,n4,c4,e2,y0,y1,y2,y3,qb⟩:=hs2.qat h1;cases e2;simp only[Nat.zero_mul,Nat.add_zero]at x0 x1 x2 x3;simp only[Nat.one_mul]at y0 y1 y2 y3;have u0:=ah x0;have u1:=ah x1;have u2:=ah x2;have u3:=ah x3;have v0:=ah y0;have v1:=ah y1;have v2:=ah y2;have v3:=ah y3;have HX:=Hd (MZ (w:=W1.drew) (hM2.le (Nat.le_refl _)) (qa.go hb0) (qb.go hb0) oa ob hf);have qx:=Hd hM2;clear x0 x1 x2 x3 y0 y1 y2 y3 qa qb hs hs2 h0 h1 oa ob hf hb0 hM2 hM F1;refine ent func80 rfl ntmps80 ?_;gi_wp2;refine iF [] 10 1 [0,1,2,3,4,5,6,7,8,9] (by kernel_rfl) (by kernel_rfl) rfl ?_;refine eH ?_;refine aH fun K hK=>aA rfl rfl wy fun K' hK'=>?_;gi_wp2;refine Cl 22 HX.out ?_;rintro e w2 ⟨u,rfl,z2,hb2⟩;have F2:=Hd (F.out.drew.go hb2);have HG:=Hd (wJ (M:=(w.heap.size+2)::M) (qx.out.le (Nat.le_trans (Nat.le_refl _) hb2.size)) z2);refine hK' _ _ ⟨?_,hK _ _ ?_⟩;clear hK' K' hK K;·exact Keeps.of_below hb2 _
 clear hb2 z2;refine lit ?_;refine eH ?_;refine aH fun K hK=>aA rfl rfl wy fun K' hK'=>?_;gi_wp2;refine Cl 70 HG.out ?_;rintro e w3 ⟨u,rfl,z2,hb2⟩;obtain⟨p2,q2,A2,n2,c2,B2,m2,d2,rfl,qc⟩:=QC.of z2;have G:=Hd2 (F2.out.go hb2) qc;refine hK' _ _ ⟨?_,hK _ _ ?_⟩;clear hK' K' hK K;·exact Keeps.of_below hb2 _
 clear hb2 z2 qc;refine lit ?_;refine aK ?_;have o2:=aW G.out.1;refine jW fun K hK K' hK'=>?_;gi_wp2;refine tail_nil _ ?_;gi_wp2;obtain⟨wF,hwF,t0,t1,t2,t3,hQ,bF⟩:=nN (M:=M) (G.out.1.aQ 2 0) (G.out.1.aQ 2 1) (G.out.1.aQ 2 2) (G.out.1.aQ 2 3) (x:=_) G.out.2.num.sl G.out.2.den.sl G.out.2.num.neg G.out.2.den.neg G.out.1.bl (by omega);try rw[hwF]
 exact⟨rfl,.agg #[.bool p2,.slice A2 n2 c2,.bool q2,.slice B2 m2 d2],by simp[results,go_sem,t0,t1,t2,t3],_,rfl,hQ,bF⟩
theorem Ze(hM:b_ M w)(hs:Sl fC w M A n cp (ls.map jd))(h0:ls[0]?=some a)(h1:ls[1]?=some b)(oa:a.ok)(ob:b.ok)(hf:Fine a b):
 Calls prog 81 #[.agg (pY r s1 s2 s3 s4 s5 s6 s7 i t1 t2 t3 t4).toArray,.agg (exV x B m d).toArray,.slice A n cp] w (Au M (OG a b) w):=by
 refine wid ?_;obtain⟨W1,hW1,F1⟩:=dR ((((Fr.nil w).a w.heap.size (pY r s1 s2 s3 s4 s5 s6 s7 i t1 t2 t3 t4) 78).a (w.heap.size+1) (exV x B m d) 48).a (w.heap.size+2) [.bool false,.slice none 0 0,.bool false,.slice none 0 0] 42);have F:=Hd F1;have hsm:=hs.small;have hn1:1<n:=by exact afS
 have hn0:0<n:=by omega
 have hn2:(1:Int)<(n:Int):=by omega
 have hM2:b_ ((w.heap.size+2)::M) W1:=(hM.le F1.bl.size).cons (F1.mJ 2);have hs2:=(hs.more (b:=w.heap.size+2) (by omega)).go F1.bl;have hb0:Below W1.heap.size W1 W1.drew:=(Below.refl _ _).drew;obtain⟨b1,o1,A1,n1,c1,A2,n2,c2,rfl,x0,x1,x2,x3,qa⟩:=hs2.qat h0;obtain⟨b2,o2,A3,n3,c3,A4,n4,c4,e2,y0,y1,y2,y3,qb⟩:=hs2.qat h1;cases e2;simp only[Nat.zero_mul,Nat.add_zero]at x0 x1 x2 x3;simp only[Nat.one_mul]at y0 y1 y2 y3;have u0:=ah x0;have u1:=ah x1;have u2:=ah x2;have u3:=ah x3;have v0:=ah y0;have v1:=ah y1;have v2:=ah y2;have v3:=ah y3;have HX:=Hd (Xl (w:=W1.drew) (hM2.le (Nat.le_refl _)) (qa.go hb0) (qb.go hb0) oa ob hf);have qx:=Hd hM2;clear x0 x1 x2 x3 y0 y1 y2 y3 qa qb hs hs2 h0 h1 oa ob hf hb0 hM2 hM F1;refine ent func81 rfl ntmps81 ?_;gi_wp2;refine iF [] 10 1 [0,1,2,3,4,5,6,7,8,9] (by kernel_rfl) (by kernel_rfl) rfl ?_;refine eH ?_;refine aH fun K hK=>aA rfl rfl wy fun K' hK'=>?_;gi_wp2;refine Cl 82 HX.out ?_;rintro e w2 ⟨u,rfl,z2,hb2⟩;have F2:=Hd (F.out.drew.go hb2);have HG:=Hd (wJ (M:=(w.heap.size+2)::M) (qx.out.le (Nat.le_trans (Nat.le_refl _) hb2.size)) z2);refine hK' _ _ ⟨?_,hK _ _ ?_⟩;clear hK' K' hK K;·exact Keeps.of_below hb2 _
 clear hb2 z2;refine lit ?_;refine eH ?_;refine aH fun K hK=>aA rfl rfl wy fun K' hK'=>?_;gi_wp2;refine Cl 70 HG.out ?_;rintro e w3 ⟨u,rfl,z2,hb2⟩;obtain⟨p2,q2,A2,n2,c2,B2,m2,d2,rfl,qc⟩:=QC.of z2;have G:=Hd2 (F2.out.go hb2) qc;refine hK' _ _ ⟨?_,hK _ _ ?_⟩;clear hK' K' hK K;·exact Keeps.of_below hb2 _
 clear hb2 z2 qc;refine lit ?_;refine aK ?_;have o2:=aW G.out.1;refine jW fun K hK K' hK'=>?_;gi_wp2;refine tail_nil _ ?_;gi_wp2;obtain⟨wF,hwF,t0,t1,t2,t3,hQ,bF⟩:=nN (M:=M) (G.out.1.aQ 2 0) (G.out.1.aQ 2 1) (G.out.1.aQ 2 2) (G.out.1.aQ 2 3) (x:=_) G.out.2.num.sl G.out.2.den.sl G.out.2.num.neg G.out.2.den.neg G.out.1.bl (by omega);try rw[hwF]
 exact⟨rfl,.agg #[.bool p2,.slice A2 n2 c2,.bool q2,.slice B2 m2 d2],by simp[results,go_sem,t0,t1,t2,t3],_,rfl,hQ,bF⟩
end
theorem Sl.PI{M:List Nat}{w:World}{A:Option Addr}{n c:Nat}(h:Sl fC w M A n c (ls.map jd))(hk:ls[k]?=some q):
 ∃b o A1 n1 c1 A2 n2 c2,A=some ⟨b,o,none⟩/\w.cell? ⟨b,o+k*4,none⟩=some (.bool (aG q.num))/\w.cell? ⟨b,o+k*4+1,none⟩=some (.slice A1 n1 c1)/\w.cell? ⟨b,o+k*4+2,none⟩=some (.bool (aG q.den))/\w.cell? ⟨b,o+k*4+3,none⟩=some (.slice A2 n2 c2)/\QC w M q (aG q.num) (aG q.den) A1 n1 c1 A2 n2 c2:=by
 obtain⟨b,o,A1,n1,c1,A2,n2,c2,rfl,x0,x1,x2,x3,s1,s2⟩:=h.MG (x:=jd q) (by rw[List.getElem?_map,hk];rfl);exact⟨b,o,A1,n1,c1,A2,n2,c2,rfl,x0,x1,x2,x3,⟨⟨rfl,s1⟩,⟨rfl,s2⟩⟩⟩
theorem Zf{M:List Nat}{r:aS}{s1 s2 s3 s4 s5 s6 s7:dK}{c:dS}{t1 t2 t3 t4:dK}{i:Nat}{xk xd:Int}{xs:ByteArray}{A B:Option Addr}{n cp m d:Nat}{ps:List Rt}{w:World}(hc:jE w M c t1 t2 t3 t4)(hp:c.prev=ps.map jd)(hk:ps[k]?=some q):
 Calls prog 79 #[.agg (pY r s1 s2 s3 s4 s5 s6 s7 i t1 t2 t3 t4).toArray,.agg #[.int .i64 xk,.string xs,.int .i64 k,.int .i64 xd,.slice B m d],.slice A n cp] w (Au M q w):=by
 refine wid ?_;obtain⟨A4,n4,c4⟩:=t4;have h4:Sl fC w M A4 n4 c4 c.prev:=hc.prev;rw[hp]at h4;have hsm:=h4.small;have hkn:k<n4:=by rw[<-h4.len,List.length_map];exact(List.getElem?_eq_some_iff.1 hk).1
 obtain⟨W1,hW1,F1⟩:=dR ((((Fr.nil w).a w.heap.size (pY r s1 s2 s3 s4 s5 s6 s7 i t1 t2 t3 ⟨A4,n4,c4⟩) 78).a (w.heap.size+1) [.int .i64 xk,.string xs,.int .i64 k,.int .i64 xd,.slice B m d] 48).a (w.heap.size+2) [.bool false,.slice none 0 0,.bool false,.slice none 0 0] 42);have F:=Hd F1;have o1:=aW F1;obtain⟨b,o,A1,n1,c1,A2,n2,c2,rfl,x0,x1,x2,x3,qc⟩:=((h4.more (b:=w.heap.size+2) (by omega)).go F1.bl).PI hk;have G:=Hd2 F1 qc;clear qc h4 hc hp hk F1;refine ent func79 rfl ntmps79 ?_;gi_wp2;obtain⟨wF,hwF,t0,t1,t2,t3,hQ,bF⟩:=nN (M:=M) (G.out.1.aQ 2 0) (G.out.1.aQ 2 1) (G.out.1.aQ 2 2) (G.out.1.aQ 2 3) (x:=q) G.out.2.num.sl G.out.2.den.sl G.out.2.num.neg G.out.2.den.neg G.out.1.bl (by omega);try rw[hwF]
 exact⟨rfl,.agg #[.bool (aG q.num),.slice A1 n1 c1,.bool (aG q.den),.slice A2 n2 c2],by simp[results,go_sem,t0,t1,t2,t3],_,rfl,hQ,bF⟩
theorem Ir{M:List Nat}{r:aS}{s1 s2 s3 s4 s5 s6 s7:dK}{t1 t2 t3 t4:dK}{i:Nat}{x:aU}{A B:Option Addr}{n cp m d:Nat}{w:World}{bs:Nat}(hM:b_ M w)(hs:Sl fC w M A n cp (ls.map jd))(h0:ls[0]?=some a)(h1:ls[1]?=some b)(oa:a.ok)(ob:b.ok)(hf:Fine a b)(hsg:s=1\/s= -1)(hbs:w.cell? ⟨bs,0,none⟩=some (.int .i64 s)):
 Calls prog 72 #[.agg (pY r s1 s2 s3 s4 s5 s6 s7 i t1 t2 t3 t4).toArray,.agg (exV x B m d).toArray,.slice A n cp,.pointer (some ⟨bs,0,none⟩)] w (Au M (if s*rW a b<=0 then(ls[0]?).getD zR else(ls[1]?).getD zR) w):=by
 refine wid ?_;obtain⟨W1,hW1,F1⟩:=dR ((((Fr.nil w).a w.heap.size (pY r s1 s2 s3 s4 s5 s6 s7 i t1 t2 t3 t4) 78).a (w.heap.size+1) (exV x B m d) 48).a (w.heap.size+2) [.bool false,.slice none 0 0,.bool false,.slice none 0 0] 42);have F:=Hd F1;have o1:=aW F1;have v0:=(F1.bl.cell (p:=⟨bs,0,none⟩) (World.block_lt_of_cell? w _ hbs)).trans hbs;have hsm:=hs.small;obtain⟨qa,hqa⟩:∃q,ls[0]?=some q:=⟨_,by assumption⟩;obtain⟨qb,yK⟩:∃q,ls[1]?=some q:=⟨_,by assumption⟩;have hn1:1<n:=by rw[<-hs.len,List.length_map];exact(List.getElem?_eq_some_iff.1 yK).1
 have hn0:0<n:=by omega
 have hn2:(1:Int)<(n:Int):=by omega
 have hn3:(0:Int)<(n:Int):=by omega
 have hs2:=(hs.more (b:=w.heap.size+2) (by omega)).go F1.bl;have X:=Aa (s:=s) ((hM.le F1.bl.size).cons (F1.mJ 2)) hs2 h0 h1 oa ob hf hsg;have HS:=fB hs2 hqa yK;rw[hqa,yK];by_cases hz:s*rW a b<=0;·rw[decide_eq_true hz]at X;rw[if_pos hz];have HX:=Hd X;clear X hs hs2 h0 h1 oa ob hf hqa yK hM F1 hz;refine ent func72 rfl ntmps72 ?_;exact aem
 ·rw[decide_eq_false hz]at X;rw[if_neg hz];have HX:=Hd X;clear X hs hs2 h0 h1 oa ob hf hqa yK hM F1 hz;refine ent func72 rfl ntmps72 ?_;exact aen
theorem Xq{M:List Nat}{r:aS}{s1 s2 s3 s4 s5 s6 s7:dK}{t1 t2 t3 t4:dK}{i:Nat}{x:aU}{A B:Option Addr}{n cp m d:Nat}{w:World}{a2 b2:Rt}(hM:b_ M w)(hs:Sl fC w M A n cp (ls.map jd))(h0:ls[0]?=some a)(h1:ls[1]?=some b)(oa:a.ok)(ob:b.ok)(hf:Fine a b)(h2:ls[2]?=some a2)(h3:ls[3]?=some b2):
 Calls prog 85 #[.agg (pY r s1 s2 s3 s4 s5 s6 s7 i t1 t2 t3 t4).toArray,.agg (exV x B m d).toArray,.slice A n cp] w (Au M (if 1*rW a b<=0 then(ls[2]?).getD zR else(ls[3]?).getD zR) w):=by
 refine wid ?_;obtain⟨W1,hW1,F1⟩:=dR ((((Fr.nil w).a w.heap.size (pY r s1 s2 s3 s4 s5 s6 s7 i t1 t2 t3 t4) 78).a (w.heap.size+1) (exV x B m d) 48).a (w.heap.size+2) [.bool false,.slice none 0 0,.bool false,.slice none 0 0] 42);have F:=Hd F1;have o1:=aW F1
 skip
 have hsm:=hs.small;obtain⟨qa,hqa⟩:∃q,ls[2]?=some q:=⟨_,by assumption⟩;obtain⟨qb,yK⟩:∃q,ls[3]?=some q:=⟨_,by assumption⟩;have hn1:3<n:=by rw[<-hs.len,List.length_map];exact(List.getElem?_eq_some_iff.1 yK).1
 have hn0:2<n:=by omega
 have hn2:(3:Int)<(n:Int):=by omega
 have hn3:(2:Int)<(n:Int):=by omega
 have hs2:=(hs.more (b:=w.heap.size+2) (by omega)).go F1.bl;have X:=Aa (s:=1) ((hM.le F1.bl.size).cons (F1.mJ 2)) hs2 h0 h1 oa ob hf (.inl rfl);have HS:=fB hs2 hqa yK;rw[hqa,yK];by_cases hz:1*rW a b<=0;·rw[decide_eq_true hz]at X;rw[if_pos hz];have HX:=Hd X;clear X hs hs2 h0 h1 oa ob hf hqa yK hM F1 hz;refine ent func85 rfl ntmps85 ?_;exact aem
 ·rw[decide_eq_false hz]at X;rw[if_neg hz];have HX:=Hd X;clear X hs hs2 h0 h1 oa ob hf hqa yK hM F1 hz;refine ent func85 rfl ntmps85 ?_;exact aen
theorem Zg{M:List Nat}{r:aS}{s1 s2 s3 s4 s5 s6 s7:dK}{t1 t2 t3 t4:dK}{i:Nat}{x:aU}{A B:Option Addr}{n cp m d:Nat}{w:World}(hM:b_ M w)(hn:i64 x.n)(hd:i64 x.d)(hx0:x.d≠0)(hs:Sl fC w M A n cp (ls.map jd))(h0:ls[0]?=some a)(oa:a.ok)(ob:(eP x.n x.d).ok)(hf:Fine (eP x.n x.d) a):
 Calls prog 83 #[.agg (pY r s1 s2 s3 s4 s5 s6 s7 i t1 t2 t3 t4).toArray,.agg (exV x B m d).toArray,.slice A n cp] w (Au M (VQ (eP x.n x.d) a) w):=by
 refine wid ?_;obtain⟨W1,hW1,F1⟩:=dR ((((Fr.nil w).a w.heap.size (pY r s1 s2 s3 s4 s5 s6 s7 i t1 t2 t3 t4) 78).a (w.heap.size+1) (exV x B m d) 48).a (w.heap.size+2) [.bool false,.slice none 0 0,.bool false,.slice none 0 0] 42);have F:=Hd F1;have hsm:=hs.small;have hn0:0<n:=by rw[<-hs.len,List.length_map];exact(List.getElem?_eq_some_iff.1 h0).1
 have hM2:b_ ((w.heap.size+2)::M) W1:=(hM.le F1.bl.size).cons (F1.mJ 2);have hs2:=(hs.more (b:=w.heap.size+2) (by omega)).go F1.bl;obtain⟨b1,o1,A1,n1,c1,A2,n2,c2,rfl,x0,x1,x2,x3,qa⟩:=hs2.qat h0;simp only[Nat.zero_mul,Nat.add_zero]at x0 x1 x2 x3;have u0:=ah x0;have u1:=ah x1;have u2:=ah x2;have u3:=ah x3;have y2:=ah (F1.aQ 1 2);have y3:=ah (F1.aQ 1 3);have HX:=Hd (uP (w:=W1.drew) (M:=(w.heap.size+2)::M) (hM2.le (Nat.le_refl _)) hn hd hx0);have H:=oK hM2 (qa.go (Below.refl _ _).drew) oa ob hf;clear x0 x1 x2 x3 qa hs hs2 h0 oa ob hf hM2 hM F1 hn hd hx0;refine ent func83 rfl ntmps83 ?_;gi_wp2;refine iF [] 15 1 [0,1,2,3,8,9,10,4,5,6,7,11,12,13,14] (by kernel_rfl) (by kernel_rfl) rfl ?_;refine eH ?_;refine aH fun K hK=>aA rfl rfl wy fun K' hK'=>?_;gi_wp2;refine Cl 21 HX.out ?_;rintro e w2 ⟨u,rfl,z2,hb2⟩;have F2:=Hd (F.out.drew.go hb2);have B2:=Hd hb2;have HG:=Hd (wJ (M:=(w.heap.size+2)::M) (H.out.1.le (Nat.le_trans (Nat.le_refl _) hb2.size)) z2);refine hK' _ _ ⟨?_,hK _ _ ?_⟩;clear hK' K' hK K;·exact Keeps.of_below hb2 _
 clear hb2 z2;refine lit ?_;refine eH ?_;refine aH fun K hK=>aA rfl rfl wy fun K' hK'=>?_;gi_wp2;refine Cl 70 HG.out ?_;rintro e w3 ⟨u3',rfl,z3,hb3⟩;have F3:=Hd (F2.out.go hb3);have HMU:=Hd (Xk (H.out.1.le (Nat.le_trans B2.out.size hb3.size)) z3 (H.out.2.1.go (B2.out.trans (hb3.mono B2.out.size))) H.out.2.2.2.1 H.out.2.2.1 H.out.2.2.2.2);have B3:=Hd (B2.out.trans (hb3.mono B2.out.size));refine hK' _ _ ⟨?_,hK _ _ ?_⟩;clear hK' K' hK K;·exact Keeps.of_below hb3 _
 clear hb3 z3;refine lit ?_;refine eH ?_;refine aH fun K hK=>aA rfl rfl wy fun K' hK'=>?_;gi_wp2;refine Cl 84 HMU.out ?_;rintro e w4 ⟨u4,rfl,z4,hb4⟩;have F4:=Hd (F3.out.go hb4);have HG2:=Hd (wJ (M:=(w.heap.size+2)::M) (H.out.1.le (Nat.le_trans B3.out.size hb4.size)) z4);refine hK' _ _ ⟨?_,hK _ _ ?_⟩;clear hK' K' hK K;·exact Keeps.of_below hb4 _
 clear hb4 z4;refine lit ?_;refine eH ?_;refine aH fun K hK=>aA rfl rfl wy fun K' hK'=>?_;gi_wp2;refine Cl 70 HG2.out ?_;rintro e w5 ⟨u5,rfl,z5,hb5⟩;obtain⟨p2,q2,A5,n5,c5,B5,m5,d5,rfl,qc⟩:=QC.of z5;have G:=Hd2 (F4.out.go hb5) qc;refine hK' _ _ ⟨?_,hK _ _ ?_⟩;clear hK' K' hK K;·exact Keeps.of_below hb5 _
 clear hb5 z5 qc;refine lit ?_;refine aK ?_;have o2:=aW G.out.1;refine jW fun K hK K' hK'=>?_;gi_wp2;refine tail_nil _ ?_;gi_wp2;obtain⟨wF,hwF,t0,t1,t2,t3,hQ,bF⟩:=nN (M:=M) (G.out.1.aQ 2 0) (G.out.1.aQ 2 1) (G.out.1.aQ 2 2) (G.out.1.aQ 2 3) (x:=_) G.out.2.num.sl G.out.2.den.sl G.out.2.num.neg G.out.2.den.neg G.out.1.bl (by omega);try rw[hwF]
 exact⟨rfl,.agg #[.bool p2,.slice A5 n5 c5,.bool q2,.slice B5 m5 d5],by simp[results,go_sem,t0,t1,t2,t3],_,rfl,hQ,bF⟩
theorem Nb(s:Int)(w:World):Calls prog 71 #[.int .i64 s] w fun e w'=>e=.returned (.agg #[.func (.func 72) #[] #[.pointer (some ⟨w.heap.size,0,none⟩)]])/\
 ((w.alloc (.cells #[.int .i64 s] 3)).alloc (.cells #[.nilFunc] 125)).setCell ⟨w.heap.size+1,0,none⟩ (.func (.func 72) #[] #[.pointer (some ⟨w.heap.size,0,none⟩)])=w':=by
 refine wid ?_;obtain⟨W1,hW1,F1⟩:=dR (((Fr.nil w).a w.heap.size [.int .i64 s] 3).a (w.heap.size+1) [.nilFunc] 125);have o1:=aW F1;clear F1;refine ent func71 rfl ntmps71 ?_;gi_wp2;refine⟨rfl,_,by simp[results,go_sem,o1],rfl,?_⟩;rw[<-hW1]
theorem Xr(w:World):(Instr.makeMap 80 none).run prog w=.ok (.map (some w.heap.size)) (w.alloc (.map #[] 0)):=by rfl
theorem gX{w w':World}{b:Nat}(h:w.mapTurned w' b):w'.heap.size=w.heap.size:=by obtain⟨_,_,_,_,_,rfl⟩:=h;exact Array.size_setIfInBounds
theorem turned_cell{w w':World}{b o:Nat}{v:Value}(h:w.mapTurned w' b)(hk:k≠b)(hc:w.cell? ⟨k,o,none⟩=some v):w'.cell? ⟨k,o,none⟩=some v:=by rw[World.cell?_of_block (w:=w) (h.grown.block k (World.block_lt_of_cell? w _ hc) (fun e=>hk (by cases e;rfl)))];exact hc
abbrev PK(w:World):List Value:= [.agg #[.nilFunc],.agg #[.func (.func 74) #[] #[]],.agg #[.func (.func 75) #[] #[]],.agg #[.func (.func 76) #[] #[]],.agg #[.func (.func 78) #[] #[]],.agg #[.func (.func 79) #[] #[]],.agg #[.func (.func 80) #[] #[]],.agg #[.func (.func 81) #[] #[]],.agg #[.func (.func 83) #[] #[]],.agg #[.func (.func 72) #[] #[.pointer (some ⟨w.heap.size+1,0,none⟩)]],.agg #[.func (.func 72) #[] #[.pointer (some ⟨w.heap.size+1+2,0,none⟩)]],.agg #[.func (.func 85) #[] #[]]]
def PL(w:World):List (Int×Value):= [(11,.agg #[.func (.func 85) #[] #[]]),(10,.agg #[.func (.func 72) #[] #[.pointer (some ⟨w.heap.size+1+2,0,none⟩)]]),(9,.agg #[.func (.func 72) #[] #[.pointer (some ⟨w.heap.size+1,0,none⟩)]]),(8,.agg #[.func (.func 83) #[] #[]]),(7,.agg #[.func (.func 81) #[] #[]]),(6,.agg #[.func (.func 80) #[] #[]]),(5,.agg #[.func (.func 79) #[] #[]]),(4,.agg #[.func (.func 78) #[] #[]]),(3,.agg #[.func (.func 76) #[] #[]]),(2,.agg #[.func (.func 75) #[] #[]]),(1,.agg #[.func (.func 74) #[] #[]])]
theorem TS(w:World):Calls prog 36 #[] w fun e w'=>∃n,e=.returned (.map (some w.heap.size))/\MV (PK w) w' w.heap.size n (qZ (PL w))/\w'.cell? ⟨w.heap.size+1,0,none⟩=some (.int .i64 1)/\w'.cell? ⟨w.heap.size+1+2,0,none⟩=some (.int .i64 (-1))/\Below w.heap.size w w':=by
 refine wid ?_;have mm:=Xr;obtain⟨w0,e0⟩:=aC (w.alloc (.map #[] 0));have m0:MV (PK w) w0 w.heap.size 0 (fun _=>none):=by rw[<-e0];exact MV.new _ w
 have z0:w0.heap.size=w.heap.size+1:=by rw[<-e0];simp
 have b:Below w.heap.size w w0:=by rw[<-e0];exact(Below.refl _ w).alloc (Nat.le_refl _) _
 obtain⟨w1,r1,m1,t1⟩:=m0.store (k:=1) underlying80 (by unfold i64;omega) (v:=.agg #[.func (.func 74) #[] #[]]) (by simp) (by omega);replace b:=b.grown t1.grown (Nat.le_of_lt m0.lt) (fun q hq=>by cases hq;exact Nat.le_refl _);obtain⟨w2,r2,m2,t2⟩:=m1.store (k:=2) underlying80 (by unfold i64;omega) (v:=.agg #[.func (.func 75) #[] #[]]) (by simp) (by omega);replace b:=b.grown t2.grown (Nat.le_of_lt m1.lt) (fun q hq=>by cases hq;exact Nat.le_refl _);obtain⟨w3,r3,m3,t3⟩:=m2.store (k:=3) underlying80 (by unfold i64;omega) (v:=.agg #[.func (.func 76) #[] #[]]) (by simp) (by omega);replace b:=b.grown t3.grown (Nat.le_of_lt m2.lt) (fun q hq=>by cases hq;exact Nat.le_refl _);obtain⟨w4,r4,m4,t4⟩:=m3.store (k:=4) underlying80 (by unfold i64;omega) (v:=.agg #[.func (.func 78) #[] #[]]) (by simp) (by omega);replace b:=b.grown t4.grown (Nat.le_of_lt m3.lt) (fun q hq=>by cases hq;exact Nat.le_refl _);obtain⟨w5,r5,m5,t5⟩:=m4.store (k:=5) underlying80 (by unfold i64;omega) (v:=.agg #[.func (.func 79) #[] #[]]) (by simp) (by omega);replace b:=b.grown t5.grown (Nat.le_of_lt m4.lt) (fun q hq=>by cases hq;exact Nat.le_refl _);obtain⟨w6,r6,m6,t6⟩:=m5.store (k:=6) underlying80 (by unfold i64;omega) (v:=.agg #[.func (.func 80) #[] #[]]) (by simp) (by omega);replace b:=b.grown t6.grown (Nat.le_of_lt m5.lt) (fun q hq=>by cases hq;exact Nat.le_refl _);obtain⟨w7,r7,m7,t7⟩:=m6.store (k:=7) underlying80 (by unfold i64;omega) (v:=.agg #[.func (.func 81) #[] #[]]) (by simp) (by omega);replace b:=b.grown t7.grown (Nat.le_of_lt m6.lt) (fun q hq=>by cases hq;exact Nat.le_refl _);obtain⟨w8,r8,m8,t8⟩:=m7.store (k:=8) underlying80 (by unfold i64;omega) (v:=.agg #[.func (.func 83) #[] #[]]) (by simp) (by omega);replace b:=b.grown t8.grown (Nat.le_of_lt m7.lt) (fun q hq=>by cases hq;exact Nat.le_refl _);have z8:w8.heap.size=w.heap.size+1:=by rw[gX t8,gX t7,gX t6,gX t5,gX t4,gX t3,gX t2,gX t1,z0]
 obtain⟨wA,ewA⟩:=aC (((w8.alloc (.cells #[.int .i64 1] 3)).alloc (.cells #[.nilFunc] 125)).setCell ⟨w8.heap.size+1,0,none⟩ (.func (.func 72) #[] #[.pointer (some ⟨w8.heap.size,0,none⟩)]));have bwA:Below w8.heap.size w8 wA:=by rw[<-ewA];exact((((Below.refl _ _).alloc (Nat.le_refl _) _).alloc (by simp) _).setCell (p:=⟨w8.heap.size+1,0,none⟩) (Nat.le_succ _) _)
 have zwA:wA.heap.size=w8.heap.size+2:=by rw[<-ewA];simp
 have cwA:wA.cell? ⟨w8.heap.size,0,none⟩=some (.int .i64 1):=by rw[<-ewA];simp[go_sem]
 have mA:=m8.go bwA;replace b:=b.trans (bwA.mono b.size);obtain⟨w9,r9,m9,t9⟩:=mA.store (k:=9) underlying80 (by unfold i64;omega) (v:=.agg #[.func (.func 72) #[] #[.pointer (some ⟨w.heap.size+1,0,none⟩)]]) (by simp) (by omega);replace b:=b.grown t9.grown (Nat.le_of_lt mA.lt) (fun q hq=>by cases hq;exact Nat.le_refl _);have z9:w9.heap.size=w.heap.size+1+2:=by rw[gX t9,zwA,z8]
 obtain⟨wB,ewB⟩:=aC (((w9.alloc (.cells #[.int .i64 (-1)] 3)).alloc (.cells #[.nilFunc] 125)).setCell ⟨w9.heap.size+1,0,none⟩ (.func (.func 72) #[] #[.pointer (some ⟨w9.heap.size,0,none⟩)]));have bwB:Below w9.heap.size w9 wB:=by rw[<-ewB];exact((((Below.refl _ _).alloc (Nat.le_refl _) _).alloc (by simp) _).setCell (p:=⟨w9.heap.size+1,0,none⟩) (Nat.le_succ _) _)
 have zwB:wB.heap.size=w9.heap.size+2:=by rw[<-ewB];simp
 have cwB:wB.cell? ⟨w9.heap.size,0,none⟩=some (.int .i64 (-1)):=by rw[<-ewB];simp[go_sem]
 have mB:=m9.go bwB;replace b:=b.trans (bwB.mono b.size);obtain⟨w10,r10,m10,t10⟩:=mB.store (k:=10) underlying80 (by unfold i64;omega) (v:=.agg #[.func (.func 72) #[] #[.pointer (some ⟨w.heap.size+1+2,0,none⟩)]]) (by simp) (by omega);replace b:=b.grown t10.grown (Nat.le_of_lt mB.lt) (fun q hq=>by cases hq;exact Nat.le_refl _);obtain⟨w11,r11,m11,t11⟩:=m10.store (k:=11) underlying80 (by unfold i64;omega) (v:=.agg #[.func (.func 85) #[] #[]]) (by simp) (by omega);replace b:=b.grown t11.grown (Nat.le_of_lt m10.lt) (fun q hq=>by cases hq;exact Nat.le_refl _);have HA:=Hd (Nb 1 w8);have HB:=Hd (Nb (-1) w9);rw[z8]at HA;rw[z9]at HB;rw[z8]at cwA;rw[z9]at cwB;have k9:=turned_cell t9 (by omega) cwA;have kB:=(bwB.cell (p:=⟨w.heap.size+1,0,none⟩) (World.block_lt_of_cell? w9 _ k9)).trans k9;have HF:=h_ m11 (turned_cell t11 (by omega) (turned_cell t10 (by omega) kB)) (turned_cell t11 (by omega) (turned_cell t10 (by omega) cwB)) b;clear k9 kB cwA cwB b m11 t9 t10 t11;clear m0 m1 m2 m3 m4 m5 m6 m7 m8 m9 mA mB m10 z0 t1 t2 t3 t4 t5 t6 t7 t8;refine ent func36 rfl ntmps36 ?_
 gi_wp2_with (first
  |(have g:=G1.out;clear g;refine Cl 71 HB.out ?_;rintro e wC ⟨rfl,hw⟩;rw[z9]at ewB;obtain rfl:=ewB.symm.trans hw)
  |(refine Cl 71 HA.out ?_;rintro e wC ⟨rfl,hw⟩;rw[z8]at ewA;obtain rfl:=ewA.symm.trans hw;have G1:=Hd trivial)
  |fail)
 go_ret;exact⟨11,rfl,HF.out.1,HF.out.2.1,HF.out.2.2.1,HF.out.2.2.2⟩
end
theorem PN{b:Int}:∀{l:List Int},(∀m,m∈l->0<=m/\m<=b)->0<=l.sum/\l.sum<=b*(l.length:Int)
 | [],_=>by simp
 |x::l,h=>by have h1:=h x List.mem_cons_self;have h2:=PN fun m hm=>h m (List.mem_cons_of_mem x hm);rw[List.sum_cons,List.length_cons,Int.natCast_add,Int.mul_add];omega
theorem PO{c:bT}(hr:fJ (rX c)=true)(ho:∀m,m∈l->Nv (rX c) m=true)(h0:0<l.length)(ht:2*c.2.2.2.2.2.1<l.length):
 0<(rU c l).length/\(rU c l).length<=l.length/\∀m,m∈rU c l->0<=m/\m<=1000:=by
 obtain⟨-,-,⟨ht0,-⟩,-⟩:=kP hr;unfold rX at ht0;simp only at ht0;have hb:∀m,m∈gI (l.map (kC c))->0<=m/\m<=1000:=fun m hm=>by obtain⟨m',hm',rfl⟩:=List.mem_map.1 (wI.1 hm);exact JJ hr (ho m' hm')
 have hl:(gI (l.map (kC c))).length=l.length:=by rw[oJ,List.length_map]
 unfold rU;split;·exact⟨by omega,by omega,hb⟩
 split;all_goals exact⟨by rw[List.length_drop,List.length_take];omega,by rw[List.length_drop,List.length_take];omega,fun m hm=>hb m (List.mem_of_mem_take (List.mem_of_mem_drop hm))⟩
theorem abu{c:bT}(hr:fJ (rX c)=true)(ho:∀m,m∈l->Nv (rX c) m=true)(h0:0<l.length)(ht:2*c.2.2.2.2.2.1<l.length)(hn:l.length<=256):yx (qJ c l) 5:=by obtain⟨h1,h2,h3⟩:=PO hr ho h0 ht;have hs:=PN h3;unfold qJ;refine(wo (k:=2) (by omega) (by omega) (pG ?_) (pG (by omega))).up (by omega);have:=JI (x:=(rU c l).sum) (a:=256000) (y:=if c.2.2.2.2.1=1 then(l.length:Int)else 1) (b:=256) ⟨hs.1,by omega⟩ (by split<;>omega);omega
theorem Xt{xs:List bW}(hi:∀x,x∈xs->mQ x)(hc:dV xs l=true)(hl:l.length<=70):(Ey xs l).natAbs<=1152921504606846975:=by
 unfold dV at hc;rw[Bool.and_eq_true]at hc;have hco:=List.all_eq_true.1 hc.2;have h:=PN (b:=104857600) (l:=(xs.zip l).map fun p=>p.2*p.1.2.1) fun m hm=>by obtain⟨⟨x,y⟩,hp,rfl⟩:=List.mem_map.1 hm;have h1:=hi x (List.of_mem_zip hp).1;have h2:=hco _ hp;unfold countB at h2;simp only[Bool.and_eq_true,decide_eq_true_eq]at h2;exact JI (a:=100) (b:=1048576) ⟨h2.1,by have:=h1.2.2.2;omega⟩ ⟨h1.1,h1.2.1⟩
 rw[List.length_map,List.length_zip]at h;unfold Ey;omega
theorem Zh{r:fC}(hr:dF r=true)(h:MK r=true):yx (OE r) 5:=by
 obtain⟨x,hx,rfl⟩:=(zx r).1 hr;rw[Lm];have key:∀z:Int,fits z=true->zF (ints (bG z))=true->z.natAbs<BB^5:=fun z hz h4=>by have h1:(bG z).length<=2048:=of_decide_eq_true hz;unfold zF at h4;rw[show(ints (bG z)).length=(bG z).length by simp[ints]]at h4;simp only[Bool.or_eq_true,Bool.and_eq_true,decide_eq_true_eq]at h4;exact(lY z.natAbs 5).2 (show(bG z).length<=5 by omega)
 unfold MK at h;rw[Bool.and_eq_true]at h;exact⟨hx,key _ hx.fn h.1,key _ hx.fd h.2⟩
def kW(r:aS)(c:dS):Fv:=⟨fun n=>(jq r c).getD n zR,Ey r.bonus c.bonus,Ey r.malus c.malus,c.prev.map OE⟩
theorem Zi{r:aS}{c:dS}(h:f_ r k c):∃x,r.rounds[k]?=some x/\kS r k x.2.1 c=true:=by
 obtain⟨-,j,x,e,hx,hc⟩:=h;obtain rfl:k=j:=by omega
 exact⟨x,hx,hc⟩
theorem wK{r:aS}{c:dS}(h:f_ r k c):c.marks.length=r.aT.length/\dV r.bonus c.bonus=true/\dV r.malus c.malus=true/\c.prev.length=k/\c.prev.all dF=true:=by obtain⟨x,-,hc⟩:=Zi h;unfold kS at hc;simp only[Bool.and_eq_true,decide_eq_true_eq]at hc;exact⟨hc.1.1.1.1.1,hc.1.1.1.1.2,hc.1.1.1.2,hc.1.1.2,hc.2⟩
theorem Nl{r:aS}{c:dS}(h:f_ r k c)(hw:yI r c)(hm:eY c.marks=0):ab_ (kW r c) r.aT.length k:=by
 obtain⟨h1,h2,h3,h4,h5⟩:=wK h;refine⟨fun n hn=>?_,by simp[kW,h4],fun x hx=>?_,Xt h.1.2.1.bonus h2 hw.lens.2.1,Xt h.1.2.1.malus h3 hw.lens.2.2.1⟩;·have hy:=List.getElem?_eq_getElem hn;have hl:=List.getElem?_eq_getElem (show n<c.marks.length by omega);obtain⟨g1,g2,g3,g4,g5⟩:=Ez h hm hy hl;have:=abu g1 g2 g3 g5 g4;show yx ((jq r c).getD n zR) 5;unfold jq;rw[uK (fun p:bT×List Int=>qJ p.1 p.2) (oG hy hl) zR];exact this
 obtain⟨q,hq,rfl⟩:=List.mem_map.1 hx;exact Zh (List.all_eq_true.1 h5 q hq) (hw.prev q hq)
theorem Nc{α:Type}{f:α->α}:∀{l:List α},l.map f=l->∀z,z∈l->f z=z
 |x::l,h,z,hz=>by
  injection h with h1 h2;rcases List.mem_cons.1 hz with rfl|hz;·exact h1
  exact Nc h2 z hz
theorem Zj{cn rn:List ByteArray}(x:aU):iV cn rn x=false->lC cn rn x=x->∀y,y∈iZ x->sO cn rn y.kind y.name=false/\qW cn rn y.kind y.name y.n=y.n:=by
 induction x using iY with
 |_ x ih=>
  intro hl hf;rw[xG,Bool.or_eq_false_iff,nP,List.any_eq_false]at hl;have hx:qW cn rn x.kind x.name x.n=x.n/\E5 cn rn x.l=x.l:=by cases x;rw[lC]at hf;injection hf with _ _ h1 _ h2;exact⟨h1,h2⟩
  rw[xH]at hx;exact o_ (Q:=fun y=>sO cn rn y.kind y.name=false/\qW cn rn y.kind y.name y.n=y.n) ⟨hl.1,hx.1⟩ fun z hz=>ih z hz (by simpa using hl.2 z hz) (Nc hx.2 z hz)
theorem acH{r:aS}{x:aJ}(hs:Sound r)(hx:r.rounds[k]?=some x)(hp:x.2.2.2.2.1=false):∀y,y∈iZ (au x)->YD r.aT.length k y:=by
 intro y hy;have hm:=List.mem_of_getElem? hx;have h1:=(hs.2.1.rounds x hm).2.2.2.2.2 hp y hy;obtain⟨-,g2,g3,-⟩:=hs.1.rounds x hm;obtain⟨h2,h3⟩:=Zj _ g2 g3 y hy;refine⟨h1,fun e=>?_,fun e=>?_⟩;·rw[e]at h2 h3;obtain⟨u,hu,hlt⟩:=DC (nm:=dP r) (s:=y.name) (n:=y.n) ⟨h2,h3⟩;rw[List.length_map]at hlt;omega
 have hb:=(hs.2.2.2 k x hx).1 y hy e;rw[e]at h2 h3;obtain⟨u,hu,-⟩:=DC (nm:=dQ r) (s:=y.name) (n:=y.n) ⟨h2,h3⟩;omega
section
open Go.RowKit Go.Shelf
attribute [local go_sem] Oper.semAt_some
structure Zk(w:World)(M:List Nat)(r:aS)(s1 s2 s3 s4 s5 s6 s7:dK)(c:dS)(t1 t2 t3 t4:dK)(u:World)(n:Nat):Prop where
 r:dG w M r s1 s2 s3 s4 s5 s6 s7
 c:jE w M c t1 t2 t3 t4
 mv:MV (PK u) w u.heap.size n (qZ (PL u))
 p1:w.cell? ⟨u.heap.size+1,0,none⟩=some (.int .i64 1)
 p2:w.cell? ⟨u.heap.size+1+2,0,none⟩=some (.int .i64 (-1))
 bM:b_ M w
section
variable {w w' u:World}{M:List Nat}{r:aS}{s1 s2 s3 s4 s5 s6 s7:dK}{c:dS}{t1 t2 t3 t4:dK}{n i:Nat}
theorem Zk.go(h:Zk w M r s1 s2 s3 s4 s5 s6 s7 c t1 t2 t3 t4 u n)(hb:Below w.heap.size w w'):Zk w' M r s1 s2 s3 s4 s5 s6 s7 c t1 t2 t3 t4 u n:=⟨h.r.go hb,h.c.go hb,h.mv.go hb,(hb.cell (p:=⟨u.heap.size+1,0,none⟩) (World.block_lt_of_cell? w _ h.p1)).trans h.p1,(hb.cell (p:=⟨u.heap.size+1+2,0,none⟩) (World.block_lt_of_cell? w _ h.p2)).trans h.p2,h.bM.le hb.size⟩
theorem Zk.up(h:Zk w M r s1 s2 s3 s4 s5 s6 s7 c t1 t2 t3 t4 u n)(L:List Nat)(hL:∀k,k∈L->w.heap.size<=k/\k<w'.heap.size)(hb:Below w.heap.size w w'):Zk w' (L++M) r s1 s2 s3 s4 s5 s6 s7 c t1 t2 t3 t4 u n:=
 have g:=h.go hb
 ⟨(h.r.moreL L fun k hk=>(hL k hk).1).go hb,(h.c.moreL L fun k hk=>(hL k hk).1).go hb,g.mv,g.p1,g.p2,fun q hq=>(List.mem_append.1 hq).elim (fun hq=>(hL q hq).2) (g.bM q)⟩
theorem Zl{l:List fC}(h:l.all dF=true):(l.map OE).map jd=l:=by
 rw[List.map_map];conv=>rhs;rw[<-List.map_id l]
 exact List.map_congr_left fun x hx=>by obtain⟨y,-,rfl⟩:=(zx x).1 (List.all_eq_true.1 h x hx);exact congrArg jd (Lm y)
theorem getD_at(h:ls[k]?=some q):ls.getD k zR=q:=by rw[List.getD_eq_getElem?_getD,h];rfl
def KdG(r:aS)(s1 s2 s3 s4 s5 s6 s7:dK)(c:dS)(t1 t2 t3 t4:dK)(u:World)(n i:Nat)(x:aU):Prop:=∃f caps,qZ (PL u) x.kind=some (.agg #[.func (.func f) #[] caps])/\(∀args w,(callFunc f args).run prog w=.ok (.enter f args) w)/\∀(W:World) (M:List Nat) (A B:Option Addr) (m d k cp:Nat),Zk W M r s1 s2 s3 s4 s5 s6 s7 c t1 t2 t3 t4 u n->Sl fC W M A k cp ((nH (kW r c) x.l).map jd)->Calls prog f (#[.agg (pY r s1 s2 s3 s4 s5 s6 s7 i t1 t2 t3 t4).toArray,.agg (exV x B m d).toArray,.slice A k cp]++caps) W (Au M (rG (kW r c) x) W)
theorem uQ(ha:yx a k)(hb:yx b k)(hk:k<=600):Fine a b:=(ha.sh hk).fine (hb.sh hk)
theorem qN{l:List aU}(h:∀y,y∈l->yx (rG I y) 300)(hk:k<l.length):∃q,(nH I l)[k]?=some q/\yx q 300:=⟨_,by rw[zL,List.getElem?_map,List.getElem?_eq_getElem hk];rfl,h _ (List.getElem_mem hk)⟩
theorem Nh(h:pX y):y.kind=1\/y.kind=2\/y.kind=3\/y.kind=4\/y.kind=5\/y.kind=6\/y.kind=7\/y.kind=8\/y.kind=9\/y.kind=10\/y.kind=11:=by
 have ha:=DW h;unfold mV at ha
 repeat' split at ha
 all_goals omega
theorem TU(hg:f_ r i c)(hw:yI r c)(hm:eY c.marks=0)(x:aU)(hi:i64 x.kind/\i64 x.n/\i64 x.d)(hp:YD r.aT.length i x)(hs:∀y,y∈x.l->yx (rG (kW r c) y) 300):KdG r s1 s2 s3 s4 s5 s6 s7 c t1 t2 t3 t4 u n i x:=by
 have ha:=DW hp.sh;have hnu:=VU hp.sh;obtain⟨g1,g2,g3,g4,g5⟩:=wK hg;unfold KdG;rw[Qy];rcases Nh hp.sh with e|e|e|e|e|e|e|e|e|e|e;all_goals rw[e]at ha |-
 ·obtain⟨n0,n1,n2,n3⟩:=hnu (.inl e);refine⟨_,_,rfl,enters_of (P:=prog) func74 (by kernel_rfl) rfl,fun W M A B m d k cp V _=>?_⟩;exact Y_ V.bM hi.2.1 hi.2.2 (by omega)
 ·obtain⟨c0,c1⟩:=hp.c e;obtain⟨k,hk⟩:∃k:Nat,x.n=(k:Int):=⟨x.n.toNat,by omega⟩;have hy:=List.getElem?_eq_getElem (show k<r.aT.length by omega);have hl:=List.getElem?_eq_getElem (show k<c.marks.length by omega);refine⟨_,_,rfl,enters_of (P:=prog) func75 (by kernel_rfl) rfl,fun W M A B m d j cp V _=>?_⟩;have:=Zc (x:=x) (i:=i) (A:=A) (B:=B) (m:=m) (d:=d) (n:=j) (cp:=cp) V.bM V.r V.c hg hm hk hy hl;rw[show Uf (kW r c) 2 x.n x.d (nH (kW r c) x.l)=qJ (r.aT[k]) (c.marks[k]) by
   rw[hk];exact uK (fun p:bT×List Int=>qJ p.1 p.2) (oG hy hl) zR]
  exact this
 ·refine⟨_,_,rfl,enters_of (P:=prog) func76 (by kernel_rfl) rfl,fun W M A B m d k cp V _=>?_⟩;exact Za V.bM V.r V.c hg.1.2.1.bonus g2 hw.lens.2.1
 ·refine⟨_,_,rfl,enters_of (P:=prog) func78 (by kernel_rfl) rfl,fun W M A B m d k cp V _=>?_⟩;exact Zb V.bM V.r V.c hg.1.2.1.malus g3 hw.lens.2.2.1
 ·obtain⟨c0,c1⟩:=hp.r e;obtain⟨k,hk⟩:∃k:Nat,x.n=(k:Int):=⟨x.n.toNat,by omega⟩;obtain⟨q,hq⟩:=dW (c.prev.map OE) k (show k<(c.prev.map OE).length by rw[List.length_map];omega);refine⟨_,_,rfl,enters_of (P:=prog) func79 (by kernel_rfl) rfl,fun W M A B m d j cp V _=>?_⟩;have:=Zf (r:=r) (s1:=s1) (s2:=s2) (s3:=s3) (s4:=s4) (s5:=s5) (s6:=s6) (s7:=s7) (i:=i) (xk:=5) (xs:=x.name) (xd:=x.d) (A:=A) (B:=B) (m:=m) (d:=d) (n:=j) (cp:=cp) V.c (Zl g5).symm hq;rw[show Uf (kW r c) 5 x.n x.d (nH (kW r c) x.l)=q by rw[hk];exact getD_at hq];rw[<-hk,<-e]at this;exact this
 ·obtain⟨a,a1,a2⟩:=qN hs (k:=0) (by have:((x.l.length:Nat):Int)=2:=ha;omega);obtain⟨b,b1,b2⟩:=qN hs (k:=1) (by have:((x.l.length:Nat):Int)=2:=ha;omega);refine⟨_,_,rfl,enters_of (P:=prog) func80 (by kernel_rfl) rfl,fun W M A B m d k cp V hl=>?_⟩;have:=Zd (x:=x) (i:=i) (r:=r) (s1:=s1) (s2:=s2) (s3:=s3) (s4:=s4) (s5:=s5) (s6:=s6) (s7:=s7) (t1:=t1) (t2:=t2) (t3:=t3) (t4:=t4) (B:=B) (m:=m) (d:=d) V.bM hl a1 b1 a2.ok b2.ok (uQ a2 b2 (by omega));rw[show Uf (kW r c) 6 x.n x.d (nH (kW r c) x.l)=Js a b by rw[<-getD_at a1,<-getD_at b1];rfl];exact this
 ·obtain⟨a,a1,a2⟩:=qN hs (k:=0) (by have:((x.l.length:Nat):Int)=2:=ha;omega);obtain⟨b,b1,b2⟩:=qN hs (k:=1) (by have:((x.l.length:Nat):Int)=2:=ha;omega);refine⟨_,_,rfl,enters_of (P:=prog) func81 (by kernel_rfl) rfl,fun W M A B m d k cp V hl=>?_⟩;have:=Ze (x:=x) (i:=i) (r:=r) (s1:=s1) (s2:=s2) (s3:=s3) (s4:=s4) (s5:=s5) (s6:=s6) (s7:=s7) (t1:=t1) (t2:=t2) (t3:=t3) (t4:=t4) (B:=B) (m:=m) (d:=d) V.bM hl a1 b1 a2.ok b2.ok (uQ a2 b2 (by omega));rw[show Uf (kW r c) 7 x.n x.d (nH (kW r c) x.l)=OG a b by rw[<-getD_at a1,<-getD_at b1];rfl];exact this
 ·obtain⟨a,a1,a2⟩:=qN hs (k:=0) (by have:((x.l.length:Nat):Int)=1:=ha;omega);have hz:=OH (hnu (.inr e));obtain⟨n0,n1,n2,n3⟩:=hnu (.inr e);refine⟨_,_,rfl,enters_of (P:=prog) func83 (by kernel_rfl) rfl,fun W M A B m d k cp V hl=>?_⟩;have:=Zg (x:=x) (i:=i) (r:=r) (s1:=s1) (s2:=s2) (s3:=s3) (s4:=s4) (s5:=s5) (s6:=s6) (s7:=s7) (t1:=t1) (t2:=t2) (t3:=t3) (t4:=t4) (B:=B) (m:=m) (d:=d) V.bM hi.2.1 hi.2.2 (by omega) hl a1 a2.ok hz.ok (uQ (hz.up (by omega)) a2 (by omega));rw[show Uf (kW r c) 8 x.n x.d (nH (kW r c) x.l)=VQ (eP x.n x.d) a by rw[<-getD_at a1];rfl];exact this
 ·obtain⟨a,a1,a2⟩:=qN hs (k:=0) (by have:((x.l.length:Nat):Int)=2:=ha;omega);obtain⟨b,b1,b2⟩:=qN hs (k:=1) (by have:((x.l.length:Nat):Int)=2:=ha;omega);refine⟨_,_,rfl,enters_of (P:=prog) func72 (by kernel_rfl) rfl,fun W M A B m d k cp V hl=>?_⟩;have:=Ir (x:=x) (i:=i) (r:=r) (s1:=s1) (s2:=s2) (s3:=s3) (s4:=s4) (s5:=s5) (s6:=s6) (s7:=s7) (t1:=t1) (t2:=t2) (t3:=t3) (t4:=t4) (B:=B) (m:=m) (d:=d) V.bM hl a1 b1 a2.ok b2.ok (uQ a2 b2 (by omega)) (.inl rfl) V.p1;rw[a1,b1]at this;rw[show Uf (kW r c) 9 x.n x.d (nH (kW r c) x.l)=if 1*rW a b<=0 then a else b by rw[Int.one_mul,<-getD_at a1,<-getD_at b1];rfl];exact this
 ·obtain⟨a,a1,a2⟩:=qN hs (k:=0) (by have:((x.l.length:Nat):Int)=2:=ha;omega);obtain⟨b,b1,b2⟩:=qN hs (k:=1) (by have:((x.l.length:Nat):Int)=2:=ha;omega);refine⟨_,_,rfl,enters_of (P:=prog) func72 (by kernel_rfl) rfl,fun W M A B m d k cp V hl=>?_⟩;have:=Ir (x:=x) (i:=i) (r:=r) (s1:=s1) (s2:=s2) (s3:=s3) (s4:=s4) (s5:=s5) (s6:=s6) (s7:=s7) (t1:=t1) (t2:=t2) (t3:=t3) (t4:=t4) (B:=B) (m:=m) (d:=d) V.bM hl a1 b1 a2.ok b2.ok (uQ a2 b2 (by omega)) (.inr rfl) V.p2;rw[a1,b1]at this;rw[show Uf (kW r c) 10 x.n x.d (nH (kW r c) x.l)=if-1*rW a b<=0 then a else b by rw[Int.neg_mul,Int.one_mul,<-getD_at a1,<-getD_at b1];rfl];exact this
 obtain⟨a,a1,a2⟩:=qN hs (k:=0) (by have:((x.l.length:Nat):Int)=4:=ha;omega);obtain⟨b,b1,b2⟩:=qN hs (k:=1) (by have:((x.l.length:Nat):Int)=4:=ha;omega);obtain⟨a',a3,a4⟩:=qN hs (k:=2) (by have:((x.l.length:Nat):Int)=4:=ha;omega);obtain⟨b',b3,b4⟩:=qN hs (k:=3) (by have:((x.l.length:Nat):Int)=4:=ha;omega);refine⟨_,_,rfl,enters_of (P:=prog) func85 (by kernel_rfl) rfl,fun W M A B m d k cp V hl=>?_⟩;have:=Xq (x:=x) (i:=i) (r:=r) (s1:=s1) (s2:=s2) (s3:=s3) (s4:=s4) (s5:=s5) (s6:=s6) (s7:=s7) (t1:=t1) (t2:=t2) (t3:=t3) (t4:=t4) (B:=B) (m:=m) (d:=d) V.bM hl a1 b1 a2.ok b2.ok (uQ a2 b2 (by omega)) a3 b3;rw[a3,b3]at this;rw[show Uf (kW r c) 11 x.n x.d (nH (kW r c) x.l)=if 1*rW a b<=0 then a' else b' by rw[Int.one_mul,<-getD_at a1,<-getD_at b1,<-getD_at a3,<-getD_at b3];rfl];exact this
end
structure TW(M:List Nat)(w u:World)(L:List (Nat×List Value))(v:Value)(xs:List Rt)(wr:World):Prop where
 own:bD fC 42 wr M u.heap.size v xs.length (xs.map jd)
 fr:Fr w wr L
 bb:Below u.heap.size u wr
 hL:∀b vs,(b,vs)∈L->b<u.heap.size
 hW:w.heap.size<=u.heap.size
 bM:b_ M u
section
variable {M:List Nat}{w u wr wz:World}{L:List (Nat×List Value)}{v:Value}{xs:List Rt}
theorem TW.go(h:TW M w u L v xs wr)(hb:Below wr.heap.size wr wz):TW M w u L v xs wz:=⟨h.own.go hb,h.fr.go hb,h.bb.trans (hb.mono h.bb.size),h.hL,h.hW,h.bM⟩
theorem TW.bel(h:TW M w u L v xs wr):b_ (bP v++M) wr:=fun q hq=>by
 rcases List.mem_append.1 hq with hq|hq;·exact(h.own.lt (bJ.1 hq)).2
 exact Nat.lt_of_lt_of_le (h.bM q hq) h.bb.size
theorem TW.app(h:TW M w u L v xs wr){p r:Bool}{A B:Option Addr}{n c m d:Nat}(hq:QC wr (bP v++M) q p r A n c B m d)(hn:xs.length<=1000):
 ∃v' w',(Builtin.append_ #[30,30] 30 #[v,.slice (some ⟨wr.heap.size,0,none⟩) 1 1]).run prog (wr.alloc (.cells #[.bool p,.slice A n c,.bool r,.slice B m d] 42))=.ok v' w'/\TW M w u L v' (xs++ [q]) w':=by
 obtain⟨⟨rfl,s1⟩,⟨rfl,s2⟩⟩:=hq;obtain⟨v',w',r1,r2,r3,r4,r5⟩:=h.own.app1 (t:=30) underlying30 Iq h.bb.size (fun q hq=>h.bel q (List.mem_append_right _ hq)) (x:=jd q) (JB s1 s2) (by omega);have hf:=h.fr.ZI r3 (fun g hg=>⟨Nat.le_trans h.hW (h.own.lt hg).1,fun b vs hm e=>by have h1:=(h.own.lt hg).1;have:=h.hL b vs hm;omega⟩);exact⟨v',w',r1,⟨by simpa using r2,hf,h.bb.grown r3 h.bb.size (fun g hg=>(h.own.lt hg).1),h.hL,h.hW,h.bM⟩⟩
theorem TW.sl(h:TW M w u L v xs wr)(hn:xs.length<=1000):∃A c,v=.slice A xs.length c/\Sl fC wr M A xs.length c (xs.map jd):=h.own.sl (by omega) h.bM
end
def VaR(M:List Nat)(w u:World)(L:List (Nat×List Value))(F:Nat->List Rt)(n:Nat)(v i:Value)(wr:World):Prop:=∃(k:Nat) (v':Value),k<=n/\i=.int .i64 k/\v'=v/\Hid (TW M w u L v' (F k) wr)
attribute [irreducible] VaR
theorem TY(w:World):(zeroValue 125).run prog w=.ok (.agg #[.nilFunc]) w:=by kernel_rfl
theorem Xv(f:Nat)(caps:Array Value)(w:World):(Instr.field 125 (.agg #[.func (.func f) #[] caps]) 0).run prog w=.ok (.func (.func f) #[] caps) w:=by kernel_rfl
theorem T_{l:List aU}(h:l[k]?=some y):(nH I l).take (k+1)=(nH I l).take k++ [rG I y]:=by rw[zL];exact take_snoc (by rw[List.getElem?_map,h];rfl)
section
variable {u:World}{r:aS}{s1 s2 s3 s4 s5 s6 s7:dK}{c:dS}{t1 t2 t3 t4:dK}{n i:Nat}
theorem Ua(hg:f_ r i c)(hw:yI r c)(hm:eY c.marks=0):∀(x:aU),nodes x<=60->(∀y,y∈iZ x->YD r.aT.length i y)->∀{M:List Nat}{A:Option Addr}{m d:Nat}{w:World},Zk w M r s1 s2 s3 s4 s5 s6 s7 c t1 t2 t3 t4 u n->(i64 x.kind/\i64 x.n/\i64 x.d)->Sl aU w M A m d x.l->
 Calls prog 35 #[.agg (pY r s1 s2 s3 s4 s5 s6 s7 i t1 t2 t3 t4).toArray,.agg (exV x A m d).toArray,.map (some u.heap.size)] w (Au M (rG (kW r c) x) w):=by
 intro x
 induction x using iY with
 |_ x ih=>
 intro hn hp M A m d w V hi hs;refine wid ?_;have hsm:=hs.small;obtain⟨I,hI⟩:=aC (kW r c);have hsz:=fun y=>aa2 (Nl hg hw hm) y;have hnl:=gV x;have hlen:=jX x.l;have hch:∀y,y∈x.l->yx (rG (kW r c) y) 300:=fun y hy=>(hsz y (by have:=fK hy;omega) (fun z hz=>hp z (by rw[lW];exact List.mem_cons_of_mem _ (qF hy hz)))).up (by have:=fK hy;omega);obtain⟨f,caps,kf,eg,kg⟩:=TU (s1:=s1) (s2:=s2) (s3:=s3) (s4:=s4) (s5:=s5) (s6:=s6) (s7:=s7) (t1:=t1) (t2:=t2) (t3:=t3) (t4:=t4) (u:=u) (n:=n) hg hw hm x hi (hp x (by rw[lW];exact List.mem_cons_self)) hch;have IH:=Hd (fun y (hy:y∈x.l)=> @ih y hy (by have:=fK hy;omega) (fun z hz=>hp z (by rw[lW];exact List.mem_cons_of_mem _ (qF hy hz))));rw[hI]at kg;obtain⟨L,hL⟩:∃L:List (Nat×List Value), [(w.heap.size,pY r s1 s2 s3 s4 s5 s6 s7 i t1 t2 t3 t4),(w.heap.size+1,exV x A m d),(w.heap.size+2, [.bool false,.slice none 0 0,.bool false,.slice none 0 0])]=L:=⟨_,rfl⟩;obtain⟨W1,hW1,F1⟩:=dR ((((Fr.nil w).a w.heap.size (pY r s1 s2 s3 s4 s5 s6 s7 i t1 t2 t3 t4) 78).a (w.heap.size+1) (exV x A m d) 48).a (w.heap.size+2) [.bool false,.slice none 0 0,.bool false,.slice none 0 0] 42);have o1:=aW F1;have HV:=Hd2 (V.up (w':=W1) [w.heap.size+2] (fun k hk=>by rw[List.mem_singleton]at hk;subst hk;exact⟨by omega,F1.mJ 2⟩) F1.bl) ((hs.more (b:=w.heap.size+2) (by omega)).go F1.bl);have HLE:=Hd (show ∀V,Fr w V L->Fr w V [(w.heap.size,pY r s1 s2 s3 s4 s5 s6 s7 i t1 t2 t3 t4),(w.heap.size+1,exV x A m d),(w.heap.size+2, [.bool false,.slice none 0 0,.bool false,.slice none 0 0])]from fun V h=>by rw[hL];exact h);have FL:Fr w W1 L:=by rw[<-hL];exact F1
 have R0:=Hd (show TW ([w.heap.size+2]++M) w W1 L (.slice none 0 0) [] W1 from⟨bD.nil _ _ _,FL,Below.refl _ _,fun b vs hm=>FL.lt b vs hm,FL.bl.size,HV.out.1.bM⟩);have KG:=Hd2 kf kg;have HX:=Hd2 hs.len (show x.l.length<=60 by omega);have HI:=Hd hI;clear F1 FL V hs hL hp ih hsz hnl hlen hch kf kg hg hw hm hn;rw[hI];clear hI;refine ent func35 rfl ntmps35 ?_;gi_wp2;gi_loopw[7,13] (fun v j wr=>VaR ([w.heap.size+2]++M) w W1 L (fun k=>(nH I x.l).take k) m v j wr) (fun _ j _=>m-(intOf j).toNat);case atStart=>unfold VaR;exact⟨0,_,Nat.zero_le _,rfl,rfl,R0⟩
 case round=>
  unfold VaR at hrel;obtain⟨k,v,hk,rfl,hv,hR⟩:=hrel;subst hv;replace hR:Hid (TW ([w.heap.size+2]++M) w W1 L v ((nH I x.l).take k) wr):=hR;have o2:=aW (HLE.out _ hR.out.fr);by_cases hlt:k<m
  ·obtain⟨y,hy⟩:=dW x.l k (by rw[HX.out.1];exact hlt);have hbW:=hR.out.bb;obtain⟨b,o,B,n',d',rfl,⟨h0,h1,h2,h3,h4⟩,hyi,hys⟩:=(HV.out.2.go hbW).qQ hy;obtain⟨W5,CZ,F5⟩:=dR ((HLE.out _ hR.out.fr).a wr.heap.size (exV y B n' d') 48);have hb5:Below wr.heap.size wr W5:=by rw[<-CZ];exact(Below.refl _ wr).alloc (Nat.le_refl _) _
   have o5:=aW F5;have hown:∀q,q∈bP v->W1.heap.size<=q/\q<W5.heap.size:=fun q hq=>by have h1:=hR.out.own.lt (bJ.1 hq);exact⟨h1.1,Nat.lt_of_lt_of_le h1.2 hb5.size⟩
   have V5:=HV.out.1.up (w':=W5) (bP v) hown (hbW.trans (hb5.mono hbW.size));have adE:=((HV.out.2.moreL (bP v) (fun q hq=>(hown q hq).1)).go hbW).qQ hy;obtain⟨b',o',B2,n2,d2,e2,⟨-,-,-,-,g4⟩,-,Xw⟩:=adE;cases e2;rw[h4]at g4;cases g4;have HC:=Hd (IH.out y (List.mem_of_getElem? hy) V5 hyi (Xw.go hb5));rw[HI.out]at HC;have hst:=T_ (I:=I) hy;have HST:=Hd2 hst (show((nH I x.l).take k).length=k by rw[List.length_take,zL,List.length_map,HX.out.1];omega);have hR5:=Hd (hR.out.go hb5);clear hy hst hbW hys Xw hown V5 hb5 F5 hyi
   gi_wp2_with (first
    |(have g:=HA;clear g;gi_at_builtin;refine wpListIn_plain rfl fun K hK'=>?_;have X:=HA.out.1;refine aI _ _ _ rfl rfl rfl X (hK' _ _ ?_);clear hK' K X)
    |(refine Cl 35 HC.out ?_;rintro e w6 ⟨u6,rfl,z2,hb2⟩;obtain⟨p2,q2,A2,n2,c2,B2,m2,d2,rfl,qc⟩:=QC.of z2;obtain⟨v',wA,r1,R1⟩:=(hR5.out.go hb2).app qc (by rw[HST.out.2];have:=HX.out;omega);rw[<-HST.out.1]at R1;have HA:=Hd2 r1 R1;clear r1 R1 z2 qc hb2)
    |fail)
   exact⟨by unfold VaR;exact⟨k+1,_,by omega,by go_num,rfl,HA.out.2⟩,by simp[intOf];omega⟩
  ·obtain rfl:k=m:=by omega
   have hall:(nH I x.l).take k=nH I x.l:=List.take_of_length_le (by rw[zL,List.length_map,HX.out.1];exact Nat.le_refl _);have hlen:(nH I x.l).length=k:=by rw[zL,List.length_map,HX.out.1]
   obtain⟨A',c',hv,hs'⟩:=hR.out.sl (by rw[hall,hlen];have:=HX.out;omega);rw[hall,hlen]at hv hs';have V5:=HV.out.1.go hR.out.bb;have hl:=V5.mv.look (k:=x.kind) underlying80 (TY wr) (by simp) hi.1;rw[KG.out.1]at hl;simp only[Option.getD_some]at hl;have HC:=Hd (KG.out.2 wr _ A' A k d k c' V5 hs');have HF:=Hd (HLE.out _ hR.out.fr);have hfd:=Xv f caps;subst hv;clear hall hlen hs' V5 hR
   gi_wp2_with (first
    |(refine Cl f HC.out ?_;rintro e w3 ⟨u3,rfl,z2,hb2⟩;obtain⟨p2,q2,A2,n2,c2,B2,m2,d2,rfl,qc⟩:=QC.of z2;have FO:=HF.out.go hb2;have o3:=aW FO;have G:=Hd2 FO qc;clear z2 FO qc hb2)
    |fail)
   exact aee
end
abbrev zQ:Value:=.agg #[.bool false,.slice none 0 0,.bool false,.slice none 0 0]
section
variable {M:List Nat}{r:aS}{s1 s2 s3 s4 s5 s6 s7:dK}{c:dS}{t1 t2 t3 t4:dK}{w:World}
theorem Iw{i K:Int}(hK:K≠0)(hC:∀V,Below w.heap.size w V->Calls prog 15 #[.agg (aV r s1 s2 s3 s4 s5 s6 s7).toArray,.int .i64 i,.agg (dI t1 t2 t3 t4).toArray] V fun e w'=>e=.returned (.int .i64 K)/\Below V.heap.size V w'):
 CB 11 #[.agg (aV r s1 s2 s3 s4 s5 s6 s7).toArray,.int .i64 i,.agg (dI t1 t2 t3 t4).toArray] (.tuple #[zQ,.int .i64 K]) w:=by
 refine wid ?_;obtain⟨W1,hW1,F1⟩:=dR (((((Fr.nil w).a w.heap.size (aV r s1 s2 s3 s4 s5 s6 s7) 28).a (w.heap.size+1) (dI t1 t2 t3 t4) 32).a (w.heap.size+2) [.bool false,.slice none 0 0,.bool false,.slice none 0 0] 42).a (w.heap.size+3) [.int .i64 0] 35);have o1:=aW F1;have F:=Hd F1;have HC:=Hd (hC W1 F1.bl);clear F1 hC;refine qj func11 rfl ntmps11 ?_
 gi_wp2_with (first
  |(have g:=G1.out;clear g;refine Cl 32 (Xn K hK _) ?_;rintro e w3 ⟨rfl,rfl⟩)
  |(refine Cl 15 HC.out ?_;rintro e w2 ⟨rfl,hb2⟩;replace F:=Hd (F.out.go hb2);have o2:=aW F.out;have G1:=Hd trivial;clear hb2)
  |fail)
 have hbl:=F.out.bl;have c3:=F.out.aQ 3 0;have f3:=F.out.zN 3 0;have d0:=F.out.aQ 2 0;have d1:=F.out.aQ 2 1;have d2:=F.out.aQ 2 2;have d3:=F.out.aQ 2 3;try clear o1
 try clear o2
 try clear o3
 refine leavesIn_cons (f:=31) (args:=#[.pointer (some ⟨w.heap.size+1+1+1,0,none⟩)]) (by simp) (by simp) (by simp[go_sem]) (fun _ _=>trivial) ?_;refine(tZ ⟨w.heap.size+1+1+1,0,none⟩ K 0 [] _ c3 f3).mono ?_;rintro e u' w'' ⟨rfl,rfl,rfl⟩;refine⟨.tuple #[zQ,.int .i64 K],?_,rfl,hbl.setCell (p:=⟨w.heap.size+1+1+1,0,none⟩) (by simp;omega) _⟩;simp[results,results11,go_sem,c3,d0,d1,d2,d3]
theorem ED{x:aJ}{i:Nat}(hr:dG w M r s1 s2 s3 s4 s5 s6 s7)(hc:jE w M c t1 t2 t3 t4)(hg:f_ r i c)(hw:yI r c)(hx:r.rounds[i]?=some x)(hp:x.2.2.2.2.1=false)(hm:¬eY c.marks=0)(ht:Tab w)(hM:b_ M w):
 CB 11 #[.agg (aV r s1 s2 s3 s4 s5 s6 s7).toArray,.int .i64 i,.agg (dI t1 t2 t3 t4).toArray] (.tuple #[zQ,.int .i64 160]) w:=by
 refine wid ?_;obtain⟨W1,hW1,F1⟩:=dR (((((Fr.nil w).a w.heap.size (aV r s1 s2 s3 s4 s5 s6 s7) 28).a (w.heap.size+1) (dI t1 t2 t3 t4) 32).a (w.heap.size+2) [.bool false,.slice none 0 0,.bool false,.slice none 0 0] 42).a (w.heap.size+3) [.int .i64 0] 35);have o1:=aW F1;have F:=Hd F1;obtain⟨A5,q5,c5⟩:=s5;have h5:Sl aJ w M A5 q5 c5 r.rounds:=hr.rounds;have hi5:i<q5:=by rw[<-h5.len];exact(List.getElem?_eq_some_iff.1 hx).1
 have JC:=h5.small;obtain⟨b5,o5,-,-,-,Zm,-⟩:=h5.iw hx;subst Zm;clear h5;have HC:=Hd (kD (i:=(i:Int)) (hr.go F1.bl) (hc.go F1.bl) hg (tab_below ht F1.bl) (hM.le F1.bl.size));have H:=oK hr hc hg hw hM;have HX:=Hd hx;have HP:=Hd hp;clear F1 hr hc hg hw hM ht hx hp;have HMI:=Hd hm;clear hm;refine qj func11 rfl ntmps11 ?_
 gi_wp2_with (first
  |(have g:=G2.out;clear g;have X:=Ip (r:=r) (s1:=s1) (s2:=s2) (s3:=s3) (s4:=s4) (s5:=⟨some ⟨b5,o5,none⟩,q5,c5⟩) (s6:=s6) (s7:=s7) (i:=i) (H.out.2.1.go F.out.bl) HMI.out (fun l hl=>Nat.le_trans (H.out.2.2.2.1.mark l hl) (by omega));refine Cl 33 X ?_;clear X;rintro e w4 ⟨rfl,hb4⟩;have FO:=F.out.go hb4;replace F:=Hd FO;clear FO hb4)
  |(have g:=G1.out;clear g;refine Cl 32 (rP _) ?_;rintro e w2' ⟨rfl,rfl⟩;obtain⟨b3,ZU,D,m3,e3,eA,⟨-,-,-,-,y4,-⟩,⟨y6,y7,y8,y9,Qu⟩,-,-,hyi,hys⟩:=(H.out.1.rounds.go F.out.bl).iw HX.out;cases eA;rw[HP.out]at y4;obtain⟨w3,hw3,F3⟩:=dR (F.out.a w2.heap.size (pY r s1 s2 s3 s4 ⟨some ⟨b5,o5,none⟩,q5,c5⟩ s6 s7 i t1 t2 t3 t4) 78);have o3:=aW F3;replace F:=Hd F3;clear F3;have G2:=Hd trivial)
  |(refine Cl 15 HC.out ?_;rintro e w2 ⟨rfl,hb2⟩;have FO:=F.out.go hb2;have hk2:w.heap.size+3<w2.heap.size:=FO.mJ 3;have o2:=aW FO;replace F:=Hd FO;have G1:=Hd trivial;clear FO hb2)
  |fail)
 have hbl:=F.out.bl;have c3:=F.out.aQ 3 0;have f3:=F.out.zN 3 0;have d0:=F.out.aQ 2 0;have d1:=F.out.aQ 2 1;have d2:=F.out.aQ 2 2;have d3:=F.out.aQ 2 3;try clear o1
 try clear o2
 try clear o3
 refine leavesIn_cons (f:=31) (args:=#[.pointer (some ⟨w.heap.size+1+1+1,0,none⟩)]) (by simp) (by simp) (by simp[go_sem]) (fun _ _=>trivial) ?_;refine(tZ ⟨w.heap.size+1+1+1,0,none⟩ 160 0 [] _ c3 f3).mono ?_;rintro e u' w'' ⟨rfl,rfl,rfl⟩;refine⟨.tuple #[zQ,.int .i64 160],?_,rfl,hbl.setCell (p:=⟨w.heap.size+1+1+1,0,none⟩) (by simp;omega) _⟩;simp[results,results11,go_sem,c3,d0,d1,d2,d3]
theorem Nj{x:aJ}{i:Nat}(hr:dG w M r s1 s2 s3 s4 s5 s6 s7)(hc:jE w M c t1 t2 t3 t4)(hg:f_ r i c)(hw:yI r c)(hx:r.rounds[i]?=some x)(hp:x.2.2.2.2.1=false)(hm:eY c.marks=0)(ht:Tab w)(hM:b_ M w):
 Calls prog 11 #[.agg (aV r s1 s2 s3 s4 s5 s6 s7).toArray,.int .i64 i,.agg (dI t1 t2 t3 t4).toArray] w fun e w'=>∃u,e=.returned (.tuple #[u,.int .i64 0])/\QW w' M u (rG (kW r c) (au x))/\Below w.heap.size w w':=by
 refine wid ?_;obtain⟨W1,hW1,F1⟩:=dR (((((Fr.nil w).a w.heap.size (aV r s1 s2 s3 s4 s5 s6 s7) 28).a (w.heap.size+1) (dI t1 t2 t3 t4) 32).a (w.heap.size+2) [.bool false,.slice none 0 0,.bool false,.slice none 0 0] 42).a (w.heap.size+3) [.int .i64 0] 35);have o1:=aW F1;have F:=Hd F1;obtain⟨A5,q5,c5⟩:=s5;have h5:Sl aJ w M A5 q5 c5 r.rounds:=hr.rounds;have hi5:i<q5:=by rw[<-h5.len];exact(List.getElem?_eq_some_iff.1 hx).1
 have JC:=h5.small;obtain⟨b5,o5,-,-,-,Zm,-⟩:=h5.iw hx;subst Zm;clear h5;have HC:=Hd (kD (i:=(i:Int)) (hr.go F1.bl) (hc.go F1.bl) hg (tab_below ht F1.bl) (hM.le F1.bl.size));have H:=oK hr hc hg hw hM;have HX:=Hd hx;have HP:=Hd hp;clear F1 hr hc hg hw hM ht hx hp;have HMI:=Hd hm;clear hm;refine qj func11 rfl ntmps11 ?_
 gi_wp2_with (first
  |(have g:=G2.out;clear g;have X:=M_ (r:=r) (s1:=s1) (s2:=s2) (s3:=s3) (s4:=s4) (s5:=⟨some ⟨b5,o5,none⟩,q5,c5⟩) (s6:=s6) (s7:=s7) (i:=i) (H.out.2.1.go F.out.bl) HMI.out (fun l hl=>Nat.le_trans (H.out.2.2.2.1.mark l hl) (by omega));refine Cl 33 X ?_;clear X;rintro e w4 ⟨rfl,hb4⟩;have FO:=F.out.go hb4;have o4:=aW FO;replace F:=Hd FO;clear FO hb4 o1 o2 o3)
  |(have g:=G1.out;clear g;refine Cl 32 (rP _) ?_;rintro e w2' ⟨rfl,rfl⟩;obtain⟨b3,ZU,D,m3,e3,eA,⟨-,-,-,-,y4,-⟩,⟨y6,y7,y8,y9,Qu⟩,-,-,hyi,hys⟩:=(H.out.1.rounds.go F.out.bl).iw HX.out;cases eA;rw[HP.out]at y4;obtain⟨w3,hw3,F3⟩:=dR (F.out.a w2.heap.size (pY r s1 s2 s3 s4 ⟨some ⟨b5,o5,none⟩,q5,c5⟩ s6 s7 i t1 t2 t3 t4) 78);have o3:=aW F3;replace F:=Hd F3;clear F3;have G2:=Hd trivial)
  |(refine Cl 15 HC.out ?_;rintro e w2 ⟨rfl,hb2⟩;have FO:=F.out.go hb2;have hk2:w.heap.size+3<w2.heap.size:=FO.mJ 3;have o2:=aW FO;replace F:=Hd FO;have G1:=Hd trivial;clear FO hb2)
  |fail)
 clear y4 y6 y7 y8 y9 Qu hys hyi;obtain⟨b3,ZU,D,m3,e3,eA,-,⟨y6,y7,y8,y9,Qu⟩,-,-,hyi,hys⟩:=(H.out.1.rounds.go F.out.bl).iw HX.out;cases eA;have v6:=ah y6;have v7:=ah y7;have v8:=ah y8;have v9:=ah y9;have v10:=ah Qu;have z5:=ah (F.out.aQ 0 5);have k0:=ah (F.out.aQ 4 0);have k1:=ah (F.out.aQ 4 1);have k2:=ah (F.out.aQ 4 2);have k3:=ah (F.out.aQ 4 3);have k4:=ah (F.out.aQ 4 4);have k5:=ah (F.out.aQ 4 5);have k6:=ah (F.out.aQ 4 6);have k7:=ah (F.out.aQ 4 7);have k8:=ah (F.out.aQ 4 8);have k9:=ah (F.out.aQ 4 9);have k10:=ah (F.out.aQ 4 10);have k11:=ah (F.out.aQ 4 11);have k12:=ah (F.out.aQ 4 12);have k13:=ah (F.out.aQ 4 13);have HSX:=Hd2 hyi hys;clear y6 y7 y8 y9 Qu hyi hys o4;refine iF [] 9 2 [0,1,2,3,4,5,6,7,8] (by kernel_rfl) (by kernel_rfl) rfl ?_;refine eH ?_;refine aH fun K hK=>aA rfl rfl wy fun K' hK'=>?_;gi_wp2;refine Cl 36 (TS w4.drew) ?_;rintro e w5 ⟨n,rfl,mv,p1,p2,hb5⟩;have acJ:=(Below.refl w4.heap.size w4).drew.trans hb5;have F5:=F.out.go acJ;have hge:∀k,k∈ [w.heap.size+2,w.heap.size+3]->w.heap.size<=k/\k<w5.heap.size:=fun k hk=>by simp only[List.mem_cons,List.not_mem_nil,or_false]at hk;have h1:=F5.mJ 2;have h2:=F5.mJ 3;rcases hk with rfl|rfl<;>omega
 have V5:Zk w5 ([w.heap.size+2,w.heap.size+3]++M) r s1 s2 s3 s4 ⟨some ⟨b5,o5,none⟩,q5,c5⟩ s6 s7 c t1 t2 t3 t4 w4.drew n:=⟨(H.out.1.moreL _ fun k hk=>(hge k hk).1).go F5.bl,(H.out.2.1.moreL _ fun k hk=>(hge k hk).1).go F5.bl,mv,p1,p2,fun q hq=>(List.mem_append.1 hq).elim (fun hq=>(hge q hq).2) (fun hq=>H.out.2.2.2.2.le F5.bl.size q hq)⟩;obtain⟨b3,ZU,D',m3',e3',eA,-,⟨-,-,-,-,Qu⟩,-,-,-,Xw⟩:=((H.out.1.moreL [w.heap.size+2,w.heap.size+3] fun k hk=>(hge k hk).1).rounds.go F5.bl).iw HX.out;cases eA;have eD:=(hb5.cell (p:=⟨b5,o5+i*13+10,none⟩) (World.block_lt_of_cell? w4.drew _ (v10 w4.drew (Keeps.refl _ _)))).trans (v10 w4.drew (Keeps.refl _ _));rw[Qu]at eD;cases eD;have HV:=Hd (Ua H.out.2.2.1 H.out.2.2.2.1 HMI.out (au x) (H.out.2.2.2.1.parts x (List.mem_of_getElem? HX.out)) (acH H.out.2.2.1.1 HX.out HP.out) V5 HSX.out.1 Xw);replace F:=Hd F5;refine hK' _ _ ⟨?_,hK _ _ ?_⟩;clear hK' K' hK K;·exact Keeps.of_below hb5 _
 clear hb5 mv p1 p2 acJ F5 hge V5 Xw Qu;refine lit ?_;refine eH ?_;refine aH fun K hK=>aA rfl rfl wy fun K' hK'=>?_;gi_wp2;refine Cl 35 HV.out ?_;rintro e w6 ⟨u6,rfl,z2,hb6⟩;obtain⟨p2,q2,A2,n2,c2,B2,m2,d2,rfl,qc⟩:=QC.of z2;have G:=Hd2 (F.out.go hb6) z2;refine hK' _ _ ⟨?_,hK _ _ ?_⟩;clear hK' K' hK K;·exact Keeps.of_below hb6 _
 clear hb6 qc z2;refine lit ?_;refine aK ?_;have o6:=aW G.out.1;refine jW fun K hK K' hK'=>?_;gi_wp2;refine jW fun K hK K' hK'=>?_;gi_wp2;refine tail_nil _ ?_;gi_wp2;obtain⟨wF,hwF,t0,t1,t2,t3,t5,hQ,bF⟩:=WM (M:=M) (G.out.1.aQ 2 0) (G.out.1.aQ 2 1) (G.out.1.aQ 2 2) (G.out.1.aQ 2 3) (G.out.1.aQ 3 0) G.out.2 (fun k hk=>by simp[hk]) (by simp) (by simp) (by omega) G.out.1.bl (by omega) (by omega);rw[hwF];clear o6;refine leavesIn_cons (f:=31) (args:=#[.pointer (some ⟨w.heap.size+1+1+1,0,none⟩)]) (by simp) (by simp) (by simp[go_sem]) (fun _ _=>trivial) ?_;refine(rQ ⟨w.heap.size+1+1+1,0,none⟩ _).mono ?_;rintro e u' w'' ⟨rfl,rfl,rfl⟩;refine⟨.tuple #[.agg #[.bool p2,.slice A2 n2 c2,.bool q2,.slice B2 m2 d2],.int .i64 0],?_,_,rfl,hQ,bF⟩;simp[results,results11,go_sem,t0,t1,t2,t3,t5]
end
end
end Go.Proofs.YtlcgbfkdnmdigaaGreatDoor
