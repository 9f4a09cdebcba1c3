/- Lemmas and walks; no statement is proved here. -/
import Derived.Sort.OwnSortedInts
import Derived.Test.YtefnknhjlejalaaGreatDoorM42
import Derived.Test.YtefnknhjlejalaaGreatDoorM43
set_option linter.unusedVariables false
set_option linter.unusedSimpArgs false
set_option maxRecDepth 20000
set_option maxHeartbeats 6000000
namespace Go.Proofs.YtefnknhjlejalaaGreatDoor
open Go.Proofs.Tryz Go.RowKit Go.Shelf
theorem afk{p:Prop}(h:p:=by exact⟨rfl,.tuple #[.agg #[.bool p2,.slice A2 n2 c2,.bool q2,.slice B2 m2 d2],.int .i64 0],by simp[results,go_sem,t0,t1,t2,t3],by exact⟨_,rfl,hQ,bF⟩⟩):p:=h
theorem adp{p:Prop}(h:p:=by
 obtain⟨wF,hwF,t0,t1,t2,t3,hQ,bF⟩:=nN (M:=M) (G.out.1.aQ 0 0) (G.out.1.aQ 0 1) (G.out.1.aQ 0 2) (G.out.1.aQ 0 3) (x:=_) G.out.2.num.sl G.out.2.den.sl G.out.2.num.neg G.out.2.den.neg G.out.1.bl (Nat.le_refl _);try rw[hwF]
 rw[Int.mul_one]at hQ;exact afk):p:=h
variable {l:List Int}{x m b lo hi st tr:Int}{M:List Nat}{w:World}{c b1 b2 n cp t:Nat}{A:Option Addr}{nm:ByteArray}{rv:Bool}
section
attribute [local go_sem] Oper.semAt_some
theorem oJ(l:List Int):(gI l).length=l.length:=List.length_mergeSort ..
theorem wI:x∈gI l↔x∈l:=(List.mergeSort_perm _ _).mem_iff
theorem PD{n0 g:Nat}{lb:Array Value}{ys:List Int}(eg:∀args w,(callFunc g args).run prog w=.ok (.enter g args) w)(hseq:Pz g lb n0 ys w)(hn:n0<=w.heap.size)(hl:ys.length<=1000)(hy:∀y,y∈ys->i64 y)(hM:b_ M w):
 Calls prog 154 #[.func (.func g) #[] lb] w fun e w'=>∃A c,e=.returned (.slice A ys.length c)/\Sl Int w' M A ys.length c (gI ys)/\Below w.heap.size w w':=by
 refine wid ?_;obtain⟨Y,hY⟩:=aC (gI ys);have HY:=Hd hY;rw[hY];refine ent func154 rfl ntmps154 ?_
 gi_wp2_with (first
  |(refine Cl 189 (MR eg hseq hn hl) ?_;rintro e w2 ⟨v,rfl,hr,hb⟩;obtain⟨V,hV⟩:=aC v)
  |fail)
 rcases hr.2 with⟨rfl,hz⟩|⟨gb,cap,cur,rfl,hbase,hgb,r1,r2,r3,r4⟩
 ·obtain rfl:ys= []:=List.eq_nil_of_length_eq_zero hz;subst hV
  gi_wp2_with (first
   |(refine Cl 190 (slices_Sort_int_none none 0 w2) ?_;rintro e w3 ⟨rfl,rfl⟩)
   |fail)
  go_ret;refine⟨none,0,rfl,?_,hb⟩;rw[<-HY.out,show gI []=([]:List Int)from by simp[gI]];exact Sl.nil0
 ·have hH:=holds_of_blockI hgb (by simpa using r4);have hgl:gb<w2.heap.size:=(Array.getElem?_eq_some_iff.1 hgb).1;have HS:=Hd (slices_Sort_int gb 0 cap ys w2 hH hgl (by omega));subst hV;clear hH
  gi_wp2_with (first
   |(refine Cl 190 HS.out ?_;rintro e w3 ⟨rfl,m,os,rfl⟩)
   |fail)
  go_ret;have ho:=ownsRow_sortedI (n:=m) (os:=os) (ts:=gI ys) (oJ ys) hbase hgb r1 r2 r3;obtain⟨A,c,e1,hs⟩:=Sl.BO (M:=M) ho (fun x hx=>hy x (wI.1 hx)) (by omega) (fun k hk=>hM k hk);cases e1;exact⟨_,_,rfl,by rw[<-HY.out];exact hs,hb.grown (grownBy_sortedI _) hb.size (fun j hj=>by cases hj;exact hbase)⟩
theorem JH{β:Type}{B:Nat}{J:β->World->Prop}(h:AbidesFrom B J){s:β}{W W':World}(hj:J s W)(hb:Below W.heap.size W W'):J s W':=h s W W' none hj ⟨hb.os,hb.tape,hb.output,hb.size,fun k hk _=>hb.block k hk⟩ (fun r e=>by cases e)
theorem Dn{c:bT}(hr:fJ (rX c)=true)(ho:Nv (rX c) m=true):pz (rX c) m=(kC c m,0):=by unfold pz kC;rw[if_pos hr,if_pos ho];rfl
theorem MW(c:bT)(A:Option Addr)(n cp:Nat)(w:World):
 Calls prog 155 #[Qz c,.slice A n cp] w fun e w'=>e=.returned (.func (.func 191) #[] #[.pointer (some ⟨w.heap.size+1,0,none⟩),.pointer (some ⟨w.heap.size,0,none⟩)])/\(w.alloc (.cells (DY c).toArray 95)).alloc (.cells #[.slice A n cp] 26)=w':=by
 refine wid ?_;refine ent func155 rfl ntmps155 ?_;gi_wp2;go_ret;exact⟨rfl,rfl⟩
theorem PE(c:bT)(h1:w.cell? ⟨b1,0,none⟩=some (.slice A n cp))(h2:∀i u,(DY c)[i]?=some u->w.cell? ⟨b2,i,none⟩=some u)(hs:Sl Int w [] A n cp l)(hr:fJ (rX c)=true)(ho:∀m,m∈l->Nv (rX c) m=true):
 Pz 191 #[.pointer (some ⟨b1,0,none⟩),.pointer (some ⟨b2,0,none⟩)] w.heap.size (l.map (kC c)) w:=by
 intro lp J Jx W hW hJ hJx mO hJ0;have hsm:=hs.small;have H:=h_ hs hr ho hs.len;have HJ:=Hd hJ;have HR:=Hd mO;have HJ0:=Hd hJ0;have H1:=Hd2 h1 h2;have l1:b1<w.heap.size:=World.block_lt_of_cell? w _ h1;have l2:b2<w.heap.size:=World.block_lt_of_cell? w _ (h2 0 _ rfl);have e1:W.cell? ⟨b1,0,none⟩=_:=(hW.cell (p:=⟨b1,0,none⟩) l1).trans h1;have HW:=Hd hW;clear hs mO hJ0 h1 h2 hr ho hJ hJx hW;simp only[List.append_toArray,List.cons_append,List.nil_append];refine ent func191 rfl ntmps191 ?_;gi_wp2;gi_loopw[10] (fun i wr=>∃k:Nat,k<=n/\i=.int .i64 k/\Hid (J ((l.take k).map (kC c)) wr)/\Hid (Below w.heap.size w wr)) (fun i _=>n-(intOf i).toNat);case atStart=>exact⟨0,Nat.zero_le _,rfl,HJ0.out,HW⟩
 case round=>
  obtain⟨k,hk,rfl,hj,hB⟩:=hrel;by_cases hlt:k<n
  ·obtain⟨b,o,y,rfl,c0,-,-,hy⟩:=(H.out.1.go hB.out).pR hlt;have u0:wr.cell? ⟨b2,0,none⟩=_:=(hB.out.cell (p:=⟨b2,0,none⟩) l2).trans (H1.out.2 0 _ rfl);have u1:wr.cell? ⟨b2,1,none⟩=_:=(hB.out.cell (p:=⟨b2,1,none⟩) l2).trans (H1.out.2 1 _ rfl);have u2:wr.cell? ⟨b2,2,none⟩=_:=(hB.out.cell (p:=⟨b2,2,none⟩) l2).trans (H1.out.2 2 _ rfl);have u3:wr.cell? ⟨b2,3,none⟩=_:=(hB.out.cell (p:=⟨b2,3,none⟩) l2).trans (H1.out.2 3 _ rfl);have u4:wr.cell? ⟨b2,4,none⟩=_:=(hB.out.cell (p:=⟨b2,4,none⟩) l2).trans (H1.out.2 4 _ rfl);have u5:wr.cell? ⟨b2,5,none⟩=_:=(hB.out.cell (p:=⟨b2,5,none⟩) l2).trans (H1.out.2 5 _ rfl);have u6:wr.cell? ⟨b2,6,none⟩=_:=(hB.out.cell (p:=⟨b2,6,none⟩) l2).trans (H1.out.2 6 _ rfl);have HB:=Hd (DJ c.1 c.2.1 c.2.2.1 c.2.2.2.1 c.2.2.2.2.1 c.2.2.2.2.2.1 c.2.2.2.2.2.2 y wr);have hbe:=Dn H.out.2.1 (H.out.2.2.1 y (List.mem_of_getElem? hy));obtain⟨z,hz⟩:=aC (kC c y);rw[hz]at hbe;rw[show(⟨c.1,c.2.1,c.2.2.1,c.2.2.2.1,c.2.2.2.2.1,c.2.2.2.2.2.1,c.2.2.2.2.2.2⟩:DF)=rX c from rfl,hbe]at HB;have HY:=Hd2 hy hz;clear hy hz hbe
   gi_wp2_with (first
    |(refine Cl 149 HB.out ?_;rintro e w2 ⟨rfl,hb2⟩;obtain⟨fn,tmps,assign,body,hyl,hR⟩:=HR.out _ z w2 (JH HJ.out hj.out hb2) (by rw[List.length_map,List.length_map,List.length_take,H.out.2.2.2];omega);have HRR:=Hd hR;have HB2:=Hd (hB.out.trans (hb2.mono hB.out.size));clear hR hb2)
    |(refine HRR.out.mono ?_;rintro e W3 (⟨rfl,hJ3,hk3⟩|⟨rfl,hx3⟩)))
   ·exact⟨⟨k+1,by omega,by go_num,Hd (by rw[take_snoc HY.out.1,List.map_append,List.map_singleton,HY.out.2];exact hJ3),Hd (HB2.out.trans hk3)⟩,by simp[intOf];omega⟩
   refine bodyPost_ret (results_none rfl _ _ _) rfl ?_;exact⟨⟨_,rfl⟩,.inr ⟨_,trivial,hx3⟩⟩
  ·obtain rfl:k=n:=by omega
   have HE:=Hd (show J (l.map (kC c)) wr by have h:=hj.out;rwa [List.take_of_length_le (by rw[H.out.2.2.2];exact Nat.le_refl _)]at h);clear hk hlt hj;gi_wp2;go_end0;exact⟨⟨_,rfl⟩,.inl ⟨_,rfl,HE.out⟩⟩
theorem ZW(h:∀m,m∈l->0<=m/\m<=b):0<=l.sum/\l.sum<=b*l.length:=by
 induction l with
 |nil=>simp
 |cons x l ih=>
  have h1:=ih fun m hm=>h m (List.mem_cons_of_mem _ hm);have h2:=h x List.mem_cons_self;have e:b*((x::l).length:Int)=b*l.length+b:=by rw[List.length_cons,Int.natCast_add,Int.mul_add];simp
  rw[List.sum_cons,e];omega
theorem JI{y a:Int}(hx:0<=x/\x<=a)(hy:0<=y/\y<=b):0<=x*y/\x*y<=a*b:=⟨Int.mul_nonneg hx.1 hy.1,Int.mul_le_mul hx.2 hy.2 hy.1 (by omega)⟩
theorem Eu{t:Int}(hM:b_ M w)(hs:Sl Int w M A n c l)(hb:∀m,m∈l->0<=m/\m<=1000)(h0:0<n)(hn:n<=256)(ht:0<=t/\t<=256):
 Calls prog 157 #[.slice A n c,.int .i64 t] w fun e w'=>∃u,e=.returned (.tuple #[u,.int .i64 0])/\QW w' M u (eP (l.sum*t) n)/\Below w.heap.size w w':=by
 refine wid ?_;obtain⟨W1,hW1,F1⟩:=nam ((Fr.nil w).a w.heap.size [.bool false,.slice none 0 0,.bool false,.slice none 0 0] 30);have F:=Hd F1;have o1:=opc F1;have hsb:=ZW hb;rw[hs.len]at hsb;have hmb:=JI hsb ht;have hSM:=Hd2 hb hmb;have H:=fB (hs.go F1.bl) hs.len ((hM.le F1.bl.size).cons (F1.mJ 0));clear hs hb hM F1;refine ent func157 rfl ntmps157 ?_;gi_wp2;gi_loopw[6,11] (fun s i wr=>∃(k:Nat) (S:Int),k<=n/\s=.int .i64 S/\i=.int .i64 k/\W1=wr/\(0<=S/\S<=1000*(k:Int))/\Hid (S+(l.drop k).sum=l.sum)) (fun _ i _=>n-(intOf i).toNat);case atStart=>exact⟨0,0,Nat.zero_le _,rfl,rfl,rfl,by simp,Hd (by simp)⟩
 case round=>
  obtain⟨k,S,hk,rfl,rfl,rfl,hSb,hS⟩:=hrel;by_cases hlt:k<n;·obtain⟨b,o,y,rfl,c0,-,hd,hy⟩:=H.out.1.pR hlt;have hyb:=hSM.out.1 y (List.mem_of_getElem? hy);have hS2:=Hd (show S+y+(l.drop (k+1)).sum=l.sum by have h:=hS.out;rw[hd,List.sum_cons]at h;omega);clear hd hS hy;gi_wp2;exact⟨⟨k+1,S+y,by omega,by go_num,by go_num,trivial,by omega,hS2⟩,by simp[intOf];omega⟩
  ·obtain rfl:k=n:=by omega
   have hE:S=l.sum:=by have h:=hS.out;rw[List.drop_of_length_le (by rw[H.out.2.1];exact Nat.le_refl _)]at h;simpa using h
   have hSt:=hSM.out.2;rw[<-hE]at hSt;have hw:IntKind.i64.wrap (S*t)=S*t:=by rw[IntKind.wrap_i64];omega
   have HI:=Hd2 (show i64 (S*t) by unfold i64;omega) hE;clear hk hlt hS hE hSt
   gi_wp2_with (first
    |(refine Cl 66 (uP (M:=w.heap.size::M) (n:=S*t) (d:=(k:Int)) H.out.2.2 HI.out.1 (by unfold i64;omega) (by omega)) ?_;rintro e w2 ⟨u,rfl,z2,hb2⟩;obtain⟨p2,q2,A2,n2,c2,B2,m2,d2,rfl,qc⟩:=QC.of z2;have FO:=F.out.go hb2;have o2:=opc FO;have G:=Hd2 FO qc;clear z2 FO qc hb2)
    |fail)
   obtain⟨wF,hwF,t0,t1,t2,t3,hQ,bF⟩:=nN (M:=M) (G.out.1.aQ 0 0) (G.out.1.aQ 0 1) (G.out.1.aQ 0 2) (G.out.1.aQ 0 3) (x:=eP (S*t) k) G.out.2.num.sl G.out.2.den.sl G.out.2.num.neg G.out.2.den.neg G.out.1.bl (Nat.le_refl _);try rw[hwF]
   rw[HI.out.2]at hQ;exact⟨rfl,.tuple #[.agg #[.bool p2,.slice A2 n2 c2,.bool q2,.slice B2 m2 d2],.int .i64 0],by simp[results,go_sem,t0,t1,t2,t3],_,rfl,hQ,bF⟩
theorem Sl.mid(h:Sl Int w M A n c l){lo hi:Nat}(h0:lo<n)(h1:lo<=hi)(h2:hi<=n):Sl Int w M (A.map fun x=>x.add lo) (hi-lo) (n-lo) ((l.take hi).drop lo):=by
 have g:=h.nY h2;have g2:Sl Int w M A hi n (l.take hi):=⟨g.len,h2,Nat.le_trans h.cap h.room,g.small,g.at_⟩;have g3:=g2.cut (sz:=1) h1 rfl
 rwa [wZ,if_neg (by omega),show(fun a:Addr=>a.add (lo*1))=fun x=>x.add lo from by simp]at g3
theorem ZX(hM:b_ M w)(h1:w.cell? ⟨b1,0,none⟩=some (.slice A n c))(h2:w.cell? ⟨b2,0,none⟩=some (.int .i64 n))(hs:Sl Int w M A n c l)(hb:∀m,m∈l->0<=m/\m<=1000)(h0:0<n)(hn:n<=256):
 Calls prog 156 #[.pointer (some ⟨b1,0,none⟩),.pointer (some ⟨b2,0,none⟩)] w (QR w M (eP (l.sum*n) n)):=by
 refine wid ?_;obtain⟨W1,hW1,F1⟩:=nam ((Fr.nil w).a w.heap.size [.bool false,.slice none 0 0,.bool false,.slice none 0 0] 30);have F:=Hd F1;have o1:=opc F1;have v1:=(F1.bl.cell (p:=⟨b1,0,none⟩) (World.block_lt_of_cell? w _ h1)).trans h1;have v2:=(F1.bl.cell (p:=⟨b2,0,none⟩) (World.block_lt_of_cell? w _ h2)).trans h2;have hcap:=hs.cap;have H:=fB ((hs.more (b:=w.heap.size) (Nat.le_refl _)).go F1.bl) ((hM.le F1.bl.size).cons (F1.mJ 0)) hb;clear hs hM hb h1 h2 F1;refine ent func156 rfl ntmps156 ?_
 gi_wp2_with (first
  |(refine Cl 157 (Eu (M:=w.heap.size::M) H.out.2.1 H.out.1 H.out.2.2 h0 hn (by omega)) ?_;rintro e w2 ⟨u,rfl,z2,hb2⟩;obtain⟨p2,q2,A2,n2,c2,B2,m2,d2,rfl,qc⟩:=QC.of z2;have FO:=F.out.go hb2;have o2:=opc FO;have G:=Hd2 FO qc;clear z2 FO qc hb2)
  |fail)
 obtain⟨wF,hwF,t0,t1,t2,t3,hQ,bF⟩:=nN (M:=M) (G.out.1.aQ 0 0) (G.out.1.aQ 0 1) (G.out.1.aQ 0 2) (G.out.1.aQ 0 3) (x:=_) G.out.2.num.sl G.out.2.den.sl G.out.2.num.neg G.out.2.den.neg G.out.1.bl (Nat.le_refl _);try rw[hwF]
 exact afk
theorem ZY{b3:Nat}(hM:b_ M w)(h1:w.cell? ⟨b1,0,none⟩=some (.slice A n c))(h2:w.cell? ⟨b2,0,none⟩=some (.int .i64 n))(h3:w.cell? ⟨b3,5,none⟩=some (.int .i64 t))(hs:Sl Int w M A n c l)(hb:∀m,m∈l->0<=m/\m<=1000)(h0:2*t<n)(hn:n<=256):
 Calls prog 158 #[.pointer (some ⟨b1,0,none⟩),.pointer (some ⟨b3,0,none⟩),.pointer (some ⟨b2,0,none⟩)] w (QR w M (eP ((l.take (n-t)).drop t).sum ((n-t-t:Nat):Int))):=by
 refine wid ?_;obtain⟨W1,hW1,F1⟩:=nam ((Fr.nil w).a w.heap.size [.bool false,.slice none 0 0,.bool false,.slice none 0 0] 30);have F:=Hd F1;have o1:=opc F1;have v1:=(F1.bl.cell (p:=⟨b1,0,none⟩) (World.block_lt_of_cell? w _ h1)).trans h1;have v2:=(F1.bl.cell (p:=⟨b2,0,none⟩) (World.block_lt_of_cell? w _ h2)).trans h2;have hcap:=hs.cap;have H:=fB ((hs.more (b:=w.heap.size) (Nat.le_refl _)).go F1.bl) ((hM.le F1.bl.size).cons (F1.mJ 0)) hb;have v3:=(F1.bl.cell (p:=⟨b3,5,none⟩) (World.block_lt_of_cell? w _ h3)).trans h3;clear hs hM hb h1 h2 h3 F1;refine ent func158 rfl ntmps158 ?_
 gi_wp2_with (first
  |(refine Cl 157 (Eu (M:=w.heap.size::M) H.out.2.1 (H.out.1.mid (lo:=t) (hi:=n-t) (by omega) (by omega) (by omega)) (fun m hm=>H.out.2.2 m (List.mem_of_mem_take (List.mem_of_mem_drop hm))) (by omega) (by omega) (by omega)) ?_;rintro e w2 ⟨u,rfl,z2,hb2⟩;obtain⟨p2,q2,A2,n2,c2,B2,m2,d2,rfl,qc⟩:=QC.of z2;have FO:=F.out.go hb2;have o2:=opc FO;have G:=Hd2 FO qc;clear z2 FO qc hb2)
  |fail)
 exact adp
theorem aad(hM:b_ M w)(h1:w.cell? ⟨b1,0,none⟩=some (.slice A n c))(h2:w.cell? ⟨b2,0,none⟩=some (.int .i64 n))(hs:Sl Int w M A n c l)(hb:∀m,m∈l->0<=m/\m<=1000)(h0:0<n)(hn:n<=256):
 Calls prog 159 #[.pointer (some ⟨b1,0,none⟩),.pointer (some ⟨b2,0,none⟩)] w (QR w M (eP ((l.take (n/2+1)).drop ((n-1)/2)).sum ((n/2+1-(n-1)/2:Nat):Int))):=by
 refine wid ?_;obtain⟨W1,hW1,F1⟩:=nam ((Fr.nil w).a w.heap.size [.bool false,.slice none 0 0,.bool false,.slice none 0 0] 30);have F:=Hd F1;have o1:=opc F1;have v1:=(F1.bl.cell (p:=⟨b1,0,none⟩) (World.block_lt_of_cell? w _ h1)).trans h1;have v2:=(F1.bl.cell (p:=⟨b2,0,none⟩) (World.block_lt_of_cell? w _ h2)).trans h2;have hcap:=hs.cap;have H:=fB ((hs.more (b:=w.heap.size) (Nat.le_refl _)).go F1.bl) ((hM.le F1.bl.size).cons (F1.mJ 0)) hb;clear hs hM hb h1 h2 F1;refine ent func159 rfl ntmps159 ?_
 gi_wp2_with (first
  |(refine Cl 157 (Eu (M:=w.heap.size::M) H.out.2.1 (H.out.1.mid (lo:=(n-1)/2) (hi:=n/2+1) (by omega) (by omega) (by omega)) (fun m hm=>H.out.2.2 m (List.mem_of_mem_take (List.mem_of_mem_drop hm))) (by omega) (by omega) (by omega)) ?_;rintro e w2 ⟨u,rfl,z2,hb2⟩;obtain⟨p2,q2,A2,n2,c2,B2,m2,d2,rfl,qc⟩:=QC.of z2;have FO:=F.out.go hb2;have o2:=opc FO;have G:=Hd2 FO qc;clear z2 FO qc hb2)
  |fail)
 exact adp
theorem Y8(w:World):(Instr.makeMap 199 none).run prog w=.ok (.map (some w.heap.size)) (w.alloc (.map #[] 0)):=by rfl
theorem Xm(w:World):(zeroValue 198).run prog w=.ok .nilFunc w:=by kernel_rfl
theorem JJ{c:bT}(hr:fJ (rX c)=true)(ho:Nv (rX c) m=true):0<=kC c m/\kC c m<=1000:=by
 obtain⟨⟨h1,h2,h3⟩,h4,-⟩:=kP hr;unfold Nv at ho;unfold kC;unfold rX at h1 h2 h3 ho;simp only at h1 h2 h3
 grind
theorem ab5(h:l.length=n):qJ (nm,lo,hi,st,1,tr,rv) l=eP ((gI (l.map (kC (nm,lo,hi,st,1,tr,rv)))).sum*(n:Int)) (n:Int):=by unfold qJ rU;simp[oJ,h]
theorem ab6(h:l.length=n):qJ (nm,lo,hi,st,2,(t:Int),rv) l=eP (((gI (l.map (kC (nm,lo,hi,st,2,(t:Int),rv)))).take (n-t)).drop t).sum ((n-t-t:Nat):Int):=by unfold qJ rU;simp[oJ,h];try(congr 1;all_goals omega)
theorem ab7(h:l.length=n)(h0:0<n):qJ (nm,lo,hi,st,3,tr,rv) l=eP (((gI (l.map (kC (nm,lo,hi,st,3,tr,rv)))).take (n/2+1)).drop ((n-1)/2)).sum ((n/2+1-(n-1)/2:Nat):Int):=by unfold qJ rU;simp[oJ,h];try(congr 1;all_goals omega)
theorem Ew(c:bT)(hM:b_ M w)(hs:Sl Int w M A n cp l)(hr:fJ (rX c)=true)(ho:∀m,m∈l->Nv (rX c) m=true)(h0:0<n)(hn:n<=256)(ht:2*c.2.2.2.2.2.1<n):
 Calls prog 109 #[Qz c,.slice A n cp] w (QR w M (qJ c l)):=by
 refine wid ?_;obtain⟨-,-,⟨ht0,ht1⟩,⟨hh1,hh2⟩,-⟩:=kP hr;unfold rX at ht0 ht1 hh1 hh2;simp only at ht0 ht1 hh1 hh2;obtain⟨nm,lo,hi,st,how,tr,rv⟩:=c;simp only at ht ht0 ht1 hh1 hh2;obtain⟨t,rfl⟩:∃t:Nat,tr=(t:Int):=⟨tr.toNat,by omega⟩;obtain⟨Q,hQ⟩:=aC (qJ (nm,lo,hi,st,how,(t:Int),rv) l);rw[hQ];have HQ:=Hd hQ;have HCR:=Hd (fun V=>vX nm lo hi st how (t:Int) rv V);rw[show(⟨nm,lo,hi,st,how,(t:Int),rv⟩:DF)=rX (nm,lo,hi,st,how,(t:Int),rv)from rfl,hr]at HCR;have HBC:=Hd (fun V=>MW (nm,lo,hi,st,how,(t:Int),rv) A n cp V);have H:=Hd5 hs hM hr ho hs.len;have hn0:((n:Int)==0)=false:=beq_eq_false_iff_ne.2 (by omega);obtain⟨W1,hW1,F1⟩:=nam ((((Fr.nil w).a w.heap.size [.string nm,.int .i64 lo,.int .i64 hi,.int .i64 st,.int .i64 how,.int .i64 t,.bool rv] 95).a (w.heap.size+1) [.bool false,.slice none 0 0,.bool false,.slice none 0 0] 30).a (w.heap.size+2) [.int .i64 n] 3);have F:=Hd F1;have o1:=opc F1;have mm:=Y8;clear hs hM hr ho hQ F1;have HTT:=fB (fun(e:how=1)=>(ab5 (lo:=lo) (hi:=hi) (nm:=nm) (st:=st) (tr:=t) (rv:=rv) H.out.2.2.2.2)) (fun(e:how=2)=>(ab6 (lo:=lo) (hi:=hi) (nm:=nm) (st:=st) (t:=t) (rv:=rv) H.out.2.2.2.2)) (fun(e:how=3)=>(ab7 (lo:=lo) (hi:=hi) (nm:=nm) (st:=st) (tr:=t) (rv:=rv) H.out.2.2.2.2 h0));obtain ab8:how=1\/how=2\/how=3:=by omega
 refine ent func109 rfl ntmps109 ?_
 gi_wp2_with (first
  |(have g:=HS4.out;clear g;first|refine Cl 156 HT1.out ?_|refine Cl 158 HT2.out ?_|refine Cl 159 HT3.out ?_
    rintro e w10 ⟨u,rfl,z2,hb2⟩;obtain⟨p2,q2,A2,n2,c2,B2,m2,d2,rfl,qc⟩:=QC.of z2;have FO:=F.out.go hb2;have o2:=opc FO;have G:=Hd2 FO qc;clear z2 FO qc hb2)
  |(have g:=HS3.out;clear g;refine Cl 154 HS3.out ?_;rintro e w4 ⟨B,d,rfl,hs4,hb4⟩;obtain⟨w5,hw5,F5⟩:=nam ((F.out.go hb4).a w4.heap.size [.slice B n d] 26);obtain⟨w6,e6⟩:=aC (w5.alloc (.map #[] 0));have m0:MV [.nilFunc,.func (.func 156) #[] #[.pointer (some ⟨w4.heap.size,0,none⟩),.pointer (some ⟨w.heap.size+1+1,0,none⟩)],.func (.func 158) #[] #[.pointer (some ⟨w4.heap.size,0,none⟩),.pointer (some ⟨w.heap.size,0,none⟩),.pointer (some ⟨w.heap.size+1+1,0,none⟩)],.func (.func 159) #[] #[.pointer (some ⟨w4.heap.size,0,none⟩),.pointer (some ⟨w.heap.size+1+1,0,none⟩)]] w6 w5.heap.size 0 (fun _=>none):=by rw[<-e6];exact MV.new _ w5
    have b:Below w5.heap.size w5 w6:=by rw[<-e6];exact(Below.refl _ w5).alloc (Nat.le_refl _) _
    obtain⟨w7,r7,m1,t7⟩:=m0.store (k:=1) underlying199 (by unfold i64;omega) (v:=.func (.func 156) #[] #[.pointer (some ⟨w4.heap.size,0,none⟩),.pointer (some ⟨w.heap.size+1+1,0,none⟩)]) (by simp) (by omega);replace b:=b.grown t7.grown (Nat.le_of_lt m0.lt) (fun q hq=>by cases hq;exact Nat.le_refl _);obtain⟨w8,r8,m2,t8⟩:=m1.store (k:=2) underlying199 (by unfold i64;omega) (v:=.func (.func 158) #[] #[.pointer (some ⟨w4.heap.size,0,none⟩),.pointer (some ⟨w.heap.size,0,none⟩),.pointer (some ⟨w.heap.size+1+1,0,none⟩)]) (by simp) (by omega);replace b:=b.grown t8.grown (Nat.le_of_lt m1.lt) (fun q hq=>by cases hq;exact Nat.le_refl _);obtain⟨w9,r9,m3,t9⟩:=m2.store (k:=3) underlying199 (by unfold i64;omega) (v:=.func (.func 159) #[] #[.pointer (some ⟨w4.heap.size,0,none⟩),.pointer (some ⟨w.heap.size+1+1,0,none⟩)]) (by simp) (by omega);replace b:=b.grown t9.grown (Nat.le_of_lt m2.lt) (fun q hq=>by cases hq;exact Nat.le_refl _);have hb5:Below w4.heap.size w4 w5:=by rw[<-hw5];exact(Below.refl _ w4).alloc (Nat.le_refl _) _
    have hl:=m3.look (k:=how) underlying199 (Xm w9) (by simp) (by unfold i64;omega);have FE:=F5.go b;have hbd:∀m,m∈gI (l.map (kC (nm,lo,hi,st,how,(t:Int),rv)))->0<=m/\m<=1000:=fun m hm=>by obtain⟨m',hm',rfl⟩:=List.mem_map.1 (wI.1 hm);exact JJ H.out.2.2.1 (H.out.2.2.2.1 m' hm')
    have HT1:=Hd (ZX (M:=(w.heap.size+1)::M) (b1:=w4.heap.size) (b2:=w.heap.size+1+1) ((H.out.2.1.le FE.bl.size).cons (FE.mJ 1)) (FE.aQ 3 0) (FE.aQ 2 0) ((hs4.go hb5).go b) hbd h0 hn);have HT2:=Hd (ZY (M:=(w.heap.size+1)::M) (b1:=w4.heap.size) (b2:=w.heap.size+1+1) (b3:=w.heap.size) (t:=t) ((H.out.2.1.le FE.bl.size).cons (FE.mJ 1)) (FE.aQ 3 0) (FE.aQ 2 0) (FE.aQ 0 5) ((hs4.go hb5).go b) hbd (by omega) hn);have HT3:=Hd (aad (M:=(w.heap.size+1)::M) (b1:=w4.heap.size) (b2:=w.heap.size+1+1) ((H.out.2.1.le FE.bl.size).cons (FE.mJ 1)) (FE.aQ 3 0) (FE.aQ 2 0) ((hs4.go hb5).go b) hbd h0 hn);have o1:=opc F5;have o2:=opc FE;replace F:=Hd FE;have HS4:=Hd trivial;clear m0 m1 m2 m3 t7 t8 t9 b hs4 hb4 F5 FE hb5 hbd;rcases ab8 with rfl|rfl|rfl;all_goals simp at hl)
  |(refine Cl 155 (HBC.out _) ?_;rintro e w3 ⟨rfl,hw3⟩;have F3:=((F.out.a w2.heap.size (DY (nm,lo,hi,st,how,(t:Int),rv)) 95).a (w2.heap.size+1) [.slice A n cp] 26);have hb3:Below w2.heap.size w2 w3:=by rw[<-hw3];exact((Below.refl _ _).alloc (Nat.le_refl _) _).alloc (by simp) _
    rw[hw3]at F3;have X:=PD (M:=(w.heap.size+1)::M) (g:=191) (enters_of func191 (by kernel_rfl) rfl) (PE (b1:=w2.heap.size+1) (b2:=w2.heap.size) (nm,lo,hi,st,how,(t:Int),rv) (F3.aQ 4 0) (fun i u hu=>(F3.at_ w2.heap.size (DY (nm,lo,hi,st,how,(t:Int),rv)) (by simp) i u hu).1) ((H.out.1.less (M':= []) (by simp)).go F3.bl) H.out.2.2.1 H.out.2.2.2.1) (Nat.le_refl _) (by rw[List.length_map,H.out.2.2.2.2];omega) (fun y hy=>by obtain⟨m,hm,rfl⟩:=List.mem_map.1 hy;have:=JJ H.out.2.2.1 (H.out.2.2.2.1 m hm);unfold i64;omega) ((H.out.2.1.le F3.bl.size).cons (F3.mJ 1));rw[List.length_map,H.out.2.2.2.2]at X;have HS3:=Hd X;have FO:=F.out.go hb3;have o1:=opc FO;replace F:=Hd FO;have HB3:=Hd hb3;clear X FO F3 hb3)
  |(refine Cl 153 (HCR.out _) ?_;rintro e w2 ⟨rfl,hb2⟩;have FO:=F.out.go hb2;have o1:=opc FO;replace F:=Hd FO;clear FO hb2)
  |fail)
 all_goals
  obtain⟨wF,hwF,t0,t1,t2,t3,hQ,bF⟩:=nN (M:=M) (G.out.1.aQ 1 0) (G.out.1.aQ 1 1) (G.out.1.aQ 1 2) (G.out.1.aQ 1 3) (x:=_) G.out.2.num.sl G.out.2.den.sl G.out.2.num.neg G.out.2.den.neg G.out.1.bl (Nat.le_succ _);try rw[hwF]
  first|rw[<-HTT.out.1 (by trivial),HQ.out]at hQ|rw[<-HTT.out.2.1 (by trivial),HQ.out]at hQ|rw[<-HTT.out.2.2 (by trivial),HQ.out]at hQ
  exact⟨rfl,.tuple #[.agg #[.bool p2,.slice A2 n2 c2,.bool q2,.slice B2 m2 d2],.int .i64 0],by simp[results,go_sem,t0,t1,t2,t3],_,rfl,hQ,bF⟩
end
end Go.Proofs.YtefnknhjlejalaaGreatDoor
