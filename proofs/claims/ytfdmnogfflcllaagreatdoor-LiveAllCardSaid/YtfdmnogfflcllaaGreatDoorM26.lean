/- Lemmas -/
import Derived.Sort.OwnSortedInts
import Derived.Test.YtfdmnogfflcllaaGreatDoorM24
import Derived.Test.YtfdmnogfflcllaaGreatDoorM25
set_option linter.all false
set_option maxRecDepth 100000
set_option maxHeartbeats 0
namespace Go.Proofs.YtfdmnogfflcllaaGreatDoor
open Go.Proofs.Tryz Go.RowKit Go.Shelf
theorem Bf{p:Prop}(h:p:=by
 obtain⟨K,r,t0,t1,t2,t3,hQ,k⟩:=nN (M:=M) (G.a.aQ 0 0) (G.a.aQ 0 1) (G.a.aQ 0 2) (G.a.aQ 0 3) (x:=_) G.u.num.sl G.u.den.sl G.u.num.neg G.u.den.neg G.a.bl pD;try rw[r]
 rw[Int.mul_one]at hQ;exact⟨rfl,.tuple #[.agg #[z,.slice i y Q,B,.slice j s o],.int .i64 0],by simp[results,go_sem,t0,t1,t2,t3],by exact⟨_,rfl,hQ,k⟩⟩):p:=h
variable {l:List Int}{x m b lo hi st tr:Int}{M:List Nat}{w:World}{c b1 b2 n cp t:Nat}{A:Option Addr}{nm:ByteArray}{rv:Bool}
section
attribute [local go_sem] cX
theorem oJ(l:List Int):(gI l).length=l.length:=List.length_mergeSort ..
theorem wI:x∈gI l↔x∈l:=(List.mergeSort_perm _ _).mem_iff
theorem PD{n0 g:Nat}{lb:Array Value}{ys:List Int}(eg:∀args w,(callFunc g args).run prog w=.ok (.enter g args) w)(hseq:Pz g lb n0 ys w)(hn:n0<=w.heap.size)(hl:ys.length<=1000)(hy:∀y,y∈ys->i64 y)(hM:b_ M w):
 Calls prog 176 #[.func (.func g) #[] lb] w fun e w'=>∃A c,e=.returned (.slice A ys.length c)/\Sl Int w' M A ys.length c (gI ys)/\Below w w w':=by
 refine wid ?_;obtain⟨Y,p⟩:=aC (gI ys);have HY:=Hd p;rw[p];refine ent func176 ntmps176 ?_
 gi_wp2_with (first
  |(refine Cl 221 (MR eg hseq hn hl) ?_;rintro e i ⟨v,rfl,D,hb⟩;obtain⟨V,o⟩:=aC v)
  |fail)
 rcases D.2 with⟨rfl,E⟩|⟨d,s,K,rfl,q,a,F,T,G,I⟩
 ·obtain rfl:ys= []:=List.eq_nil_of_length_eq_zero E;subst o
  gi_wp2_with (first
   |(refine Cl 222 (slices_Sort_int_none none 0 i) ?_;rintro e J ⟨rfl,rfl⟩)
   |fail)
  go_ret;refine⟨none,0,rfl,?_,hb⟩;rw[<-HY.out,show gI []=([]:List Int)from by simp[gI]];exact Sl.nil0
 ·have f:=holds_of_blockI a (by simpa using I);have u:d<i.heap.size:=(cR.1 a).1;have r:=Hd (slices_Sort_int d 0 s ys i f u pj);subst o;clear f
  gi_wp2_with (first
   |(refine Cl 222 r.out ?_;rintro e J ⟨rfl,m,os,rfl⟩)
   |fail)
  go_ret;have B:=ownsRow_sortedI (n:=m) (os:=os) (ts:=gI ys) (oJ ys) q a F T G;obtain⟨A,c,H,hs⟩:=Sl.BO (M:=M) B (fun x hx=>hy x (wI.1 hx)) pj (fun k z=>hM k z);cases H;exact⟨_,_,rfl,by rw[<-HY.out];exact hs,hb.grown (grownBy_sortedI _) hb.size (fun j C=>by cases C;exact q)⟩
theorem JH{β:Type}{B:Nat}{J:β->World->Prop}(h:AbidesFrom B J){s:β}{W W':World}(hj:J s W)(hb:Below W W W'):J s W':=h s W W' none hj ⟨hb.os,hb.tape,hb.output,hb.size,fun k hk _=>hb.block k hk⟩ (fun r e=>by cases e)
theorem MS{c:bT}(hr:fJ (rX c)=true)(ho:Nv (rX c) m=true):pz (rX c) m=(kC c m,0):=by unfold pz kC;rw[if_pos hr,if_pos ho];rfl
theorem MW(c:bT)(A:Option Addr)(n cp:Nat)(w:World):
 Calls prog 177 #[Qz c,.slice A n cp] w fun e w'=>e=.returned (.func (.func 223) #[] #[.pointer (some ⟨w+1,0,none⟩),.pointer (some ⟨w,0,none⟩)])/\(w.alloc (.cells (DY c).toArray 59)).alloc (.cells #[.slice A n cp] 26)=w':=by
 refine wid ?_;refine ent func177 ntmps177 ?_;gi_wp2;go_ret;exact⟨rfl,rfl⟩
theorem PE(c:bT)(h1:w.cell? ⟨b1,0,none⟩=some (.slice A n cp))(h2:∀i u,(DY c)[i]?=some u->w.cell? ⟨b2,i,none⟩=some u)(hs:Sl Int w [] A n cp l)(hr:fJ (rX c)=true)(ho:∀m,m∈l->Nv (rX c) m=true):
 Pz 223 #[.pointer (some ⟨b1,0,none⟩),.pointer (some ⟨b2,0,none⟩)] w.heap.size (l.map (kC c)) w:=by
 intro lp J X W j B Q F D;have ab:=hs.small;have H:=h_ hs hr ho hs.len;have K:=Hd B;have N:=Hd F;have L:=Hd D;have f:=Hd2 h1 h2;have T:b1<w.heap.size:=bw w _ h1;have g:b2<w.heap.size:=bw w _ (h2 0 _ rfl);have e1:W.cell? ⟨b1,0,none⟩=_:=(j.cell (p:=⟨b1,0,none⟩) T).trans h1;have P:=Hd j;clear hs F D h1 h2 hr ho B Q j;simp only[fp,d_,df];refine ent func223 ntmps223 ?_;gi_wp2;gi_loopw[10] (fun i wr=>∃k:Nat,k<=n/\i=k/\Hid (J ((l.take k).map (kC c)) wr)/\Hid (Below w w wr)) (fun i _=>n-(intOf i).toNat);case atStart=>exact⟨0,cf _,rfl,L.out,P⟩
 case round=>
  obtain⟨k,R,rfl,C,d⟩:=hrel;by_cases E:k<n
  ·obtain⟨b,o,y,rfl,c0,-,-,s⟩:=(H.a.go d.out).pR E;have u0:wr.cell? ⟨b2,0,none⟩=_:=(d.out.cell (p:=⟨b2,0,none⟩) g).trans (f.u 0 _ rfl);have u1:wr.cell? ⟨b2,1,none⟩=_:=(d.out.cell (p:=⟨b2,1,none⟩) g).trans (f.u 1 _ rfl);have u2:wr.cell? ⟨b2,2,none⟩=_:=(d.out.cell (p:=⟨b2,2,none⟩) g).trans (f.u 2 _ rfl);have u3:wr.cell? ⟨b2,3,none⟩=_:=(d.out.cell (p:=⟨b2,3,none⟩) g).trans (f.u 3 _ rfl);have u4:wr.cell? ⟨b2,4,none⟩=_:=(d.out.cell (p:=⟨b2,4,none⟩) g).trans (f.u 4 _ rfl);have u5:wr.cell? ⟨b2,5,none⟩=_:=(d.out.cell (p:=⟨b2,5,none⟩) g).trans (f.u 5 _ rfl);have u6:wr.cell? ⟨b2,6,none⟩=_:=(d.out.cell (p:=⟨b2,6,none⟩) g).trans (f.u 6 _ rfl);have HB:=Hd (DJ c.1 c.2.1 c.2.2.1 c.2.2.2.1 c.2.2.2.2.1 c.2.2.2.2.2.1 c.2.2.2.2.2.2 y wr);have r:=MS H.b (H.c y (bh s));obtain⟨z,v⟩:=aC (kC c y);rw[v]at r;rw[show(⟨c.1,c.2.1,c.2.2.1,c.2.2.2.1,c.2.2.2.2.1,c.2.2.2.2.2.1,c.2.2.2.2.2.2⟩:DF)=rX c from rfl,r]at HB;have HY:=Hd2 s v;clear s v r
   gi_wp2_with (first
    |(refine Cl 127 HB.out ?_;rintro e V ⟨rfl,q⟩;obtain⟨fn,ad,Z,aa,ac,S⟩:=N.out _ z V (JH K.out C.out q) (by rw[ck,ck,cI,H.w];omega);have O:=Hd S;have G:=Hd (d.out.trans (q.mono d.out.size));clear S q)
    |(refine O.out.mono ?_;rintro e Y (⟨rfl,hJ3,hk3⟩|⟨rfl,hx3⟩)))
   ·exact⟨⟨k+1,pj,by go_num,Hd (by rw[take_snoc HY.a,ed,nt,HY.u];exact hJ3),Hd (G.out.trans hk3)⟩,by simp[intOf];omega⟩
   refine bodyPost_ret (results_none rfl _ _ _) rfl ?_;exact⟨⟨_,rfl⟩,.inr ⟨_,bO,hx3⟩⟩
  ·obtain rfl:k=n:=pj;have I:=Hd (show J (l.map (kC c)) wr by have h:=C.out;rwa [bR (by rw[H.w];exact bj _)]at h);clear R E C;gi_wp2;go_end0;exact⟨⟨_,rfl⟩,.inl ⟨_,rfl,I.out⟩⟩
theorem ahb(h:∀m,m∈l->0<=m/\m<=b):0<=l.sum/\l.sum<=b*l.length:=by
 induction l with
 |nil=>simp
 |cons x l ih=>
  have a:=ih fun m k=>h m (bE _ k);have d:=h x cw;have e:b*((x::l).length:Int)=b*l.length+b:=by rw[eh,ki,mj];simp
  rw[mC,e];omega
theorem JI{y a:Int}(hx:0<=x/\x<=a)(hy:0<=y/\y<=b):0<=x*y/\x*y<=a*b:=⟨Int.mul_nonneg hx.1 hy.1,ix hx.2 hy.2 hy.1 pj⟩
theorem Eu{t:Int}(hM:b_ M w)(hs:Sl Int w M A n c l)(hb:∀m,m∈l->0<=m/\m<=1000)(h0:0<n)(hn:n<=256)(ht:0<=t/\t<=256):
 Calls prog 179 #[.slice A n c,t] w fun e w'=>∃u,e=.returned (.tuple #[u,.int .i64 0])/\QW w' M u (eP (l.sum*t) n)/\Below w w w':=by
 refine wid ?_;obtain⟨W1,ab,F1⟩:=dR ((Fr.nil w).a w [false,.slice none 0 0,false,.slice none 0 0] 48);have F:=Hd F1;have o1:=aW F1;have C:=ahb hb;rw[hs.len]at C;have R:=JI C ht;have p:=Hd2 hb R;have H:=fB (hs.go F1.bl) hs.len ((hM.le F1.bl.size).cons (F1.mJ 0));clear hs hb hM F1;refine ent func179 ntmps179 ?_;gi_wp2;gi_loopw[6,11] (fun s i wr=>∃(k:Nat) (S:Int),k<=n/\s=S/\i=k/\W1=wr/\(0<=S/\S<=1000*(k:Int))/\Hid (S+(l.drop k).sum=l.sum)) (fun _ i _=>n-(intOf i).toNat);case atStart=>exact⟨0,0,cf _,rfl,rfl,rfl,po,Hd po⟩
 case round=>
  obtain⟨k,S,P,rfl,rfl,rfl,aa,f⟩:=hrel;by_cases B:k<n;·obtain⟨b,o,y,rfl,c0,-,z,D⟩:=H.a.pR B;have ac:=p.a y (bh D);have O:=Hd (show S+y+(l.drop (k+1)).sum=l.sum by have h:=f.out;rw[z,mC]at h;omega);clear z f D;gi_wp2;exact⟨⟨k+1,S+y,pj,by go_num,by go_num,bO,pj,O⟩,by simp[intOf];omega⟩
  ·obtain rfl:k=n:=pj;have g:S=l.sum:=by have h:=f.out;rw[cB (by rw[H.b];exact bj _)]at h;simpa using h
   have q:=p.u;rw[<-g]at q;have hw:IntKind.i64.wrap (S*t)=S*t:=by rw[cA];omega
   have j:=Hd2 (show i64 (S*t) by unfold i64;omega) g;clear P B f g q
   gi_wp2_with (first
    |(refine Cl 78 (uP (M:=w::M) (n:=S*t) (d:=(k:Int)) H.v j.a pA pj) ?_;rintro e w2 ⟨u,rfl,I,r⟩;obtain⟨Y,Z,J,X,Q,K,V,N,rfl,E⟩:=QC.of I;have W:=F.out.go r;have o2:=aW W;have G:=Hd2 W E;clear I W E r)
    |fail)
   obtain⟨wF,T,t0,t1,t2,t3,hQ,L⟩:=nN (M:=M) (G.a.aQ 0 0) (G.a.aQ 0 1) (G.a.aQ 0 2) (G.a.aQ 0 3) (x:=eP (S*t) k) G.u.num.sl G.u.den.sl G.u.num.neg G.u.den.neg G.a.bl pD;try rw[T]
   rw[j.u]at hQ;exact⟨rfl,.tuple #[.agg #[Y,.slice J X Q,Z,.slice K V N],.int .i64 0],by simp[results,go_sem,t0,t1,t2,t3],_,rfl,hQ,L⟩
theorem Sl.mid(h:Sl Int w M A n c l){lo hi:Nat}(h0:lo<n)(h1:lo<=hi)(h2:hi<=n):Sl Int w M (A.map fun x=>x.add lo) (hi-lo) (n-lo) ((l.take hi).drop lo):=by
 have g:=h.nY h2;have L:Sl Int w M A hi n (l.take hi):=⟨g.len,h2,cF h.cap h.room,g.small,g.at_⟩;have d:=L.cut (sz:=1) h1 rfl
 rwa [wZ,if_neg pj,show(fun a:Addr=>a.add (lo*1))=fun x=>x.add lo from by simp]at d
theorem ahc(hM:b_ M w)(h1:w.cell? ⟨b1,0,none⟩=some (.slice A n c))(h2:w.cell? ⟨b2,0,none⟩=some (.int .i64 n))(hs:Sl Int w M A n c l)(hb:∀m,m∈l->0<=m/\m<=1000)(h0:0<n)(hn:n<=256):
 Calls prog 178 #[.pointer (some ⟨b1,0,none⟩),.pointer (some ⟨b2,0,none⟩)] w (QR w M (eP (l.sum*n) n)):=by
 refine wid ?_;obtain⟨W1,B,F1⟩:=dR ((Fr.nil w).a w [false,.slice none 0 0,false,.slice none 0 0] 48);have F:=Hd F1;have D:=aW F1;have v1:=(F1.bl.cell (p:=⟨b1,0,none⟩) (bw w _ h1)).trans h1;have v2:=(F1.bl.cell (p:=⟨b2,0,none⟩) (bw w _ h2)).trans h2;have C:=hs.cap;have H:=fB ((hs.more (b:=w) pD).go F1.bl) ((hM.le F1.bl.size).cons (F1.mJ 0)) hb;clear hs hM hb h1 h2 F1;refine ent func178 ntmps178 ?_
 gi_wp2_with (first
  |(refine Cl 179 (Eu (M:=w::M) H.b H.a H.v h0 hn pj) ?_;rintro e I ⟨u,rfl,g,d⟩;obtain⟨y,z,i,s,Q,j,r,o,rfl,f⟩:=QC.of g;have W:=F.out.go d;have E:=aW W;have G:=Hd2 W f;clear g W f d)
  |fail)
 obtain⟨J,q,t0,t1,t2,t3,hQ,k⟩:=nN (M:=M) (G.a.aQ 0 0) (G.a.aQ 0 1) (G.a.aQ 0 2) (G.a.aQ 0 3) (x:=_) G.u.num.sl G.u.den.sl G.u.num.neg G.u.den.neg G.a.bl pD;try rw[q]
 exact⟨rfl,.tuple #[.agg #[y,.slice i s Q,z,.slice j r o],.int .i64 0],by simp[results,go_sem,t0,t1,t2,t3],by exact⟨_,rfl,hQ,k⟩⟩
theorem ahd{b3:Nat}(hM:b_ M w)(h1:w.cell? ⟨b1,0,none⟩=some (.slice A n c))(h2:w.cell? ⟨b2,0,none⟩=some (.int .i64 n))(h3:w.cell? ⟨b3,5,none⟩=some (.int .i64 t))(hs:Sl Int w M A n c l)(hb:∀m,m∈l->0<=m/\m<=1000)(h0:2*t<n)(hn:n<=256):
 Calls prog 180 #[.pointer (some ⟨b1,0,none⟩),.pointer (some ⟨b3,0,none⟩),.pointer (some ⟨b2,0,none⟩)] w (QR w M (eP ((l.take (n-t)).drop t).sum ((n-t-t:Nat):Int))):=by
 refine wid ?_;obtain⟨W1,C,F1⟩:=dR ((Fr.nil w).a w [false,.slice none 0 0,false,.slice none 0 0] 48);have F:=Hd F1;have E:=aW F1;have v1:=(F1.bl.cell (p:=⟨b1,0,none⟩) (bw w _ h1)).trans h1;have v2:=(F1.bl.cell (p:=⟨b2,0,none⟩) (bw w _ h2)).trans h2;have D:=hs.cap;have H:=fB ((hs.more (b:=w) pD).go F1.bl) ((hM.le F1.bl.size).cons (F1.mJ 0)) hb;have v3:=(F1.bl.cell (p:=⟨b3,5,none⟩) (bw w _ h3)).trans h3;clear hs hM hb h1 h2 h3 F1;refine ent func180 ntmps180 ?_
 gi_wp2_with (first
  |(refine Cl 179 (Eu (M:=w::M) H.b (H.a.mid (lo:=t) (hi:=n-t) pj pj pj) (fun m q=>H.v m (om (lA q))) pj pj pj) ?_;rintro e J ⟨u,rfl,g,d⟩;obtain⟨z,B,i,y,Q,j,s,o,rfl,f⟩:=QC.of g;have W:=F.out.go d;have I:=aW W;have G:=Hd2 W f;clear g W f d)
  |fail)
 exact Bf
theorem ahe(hM:b_ M w)(h1:w.cell? ⟨b1,0,none⟩=some (.slice A n c))(h2:w.cell? ⟨b2,0,none⟩=some (.int .i64 n))(hs:Sl Int w M A n c l)(hb:∀m,m∈l->0<=m/\m<=1000)(h0:0<n)(hn:n<=256):
 Calls prog 181 #[.pointer (some ⟨b1,0,none⟩),.pointer (some ⟨b2,0,none⟩)] w (QR w M (eP ((l.take (n/2+1)).drop ((n-1)/2)).sum ((n/2+1-(n-1)/2:Nat):Int))):=by
 refine wid ?_;obtain⟨W1,C,F1⟩:=dR ((Fr.nil w).a w [false,.slice none 0 0,false,.slice none 0 0] 48);have F:=Hd F1;have E:=aW F1;have v1:=(F1.bl.cell (p:=⟨b1,0,none⟩) (bw w _ h1)).trans h1;have v2:=(F1.bl.cell (p:=⟨b2,0,none⟩) (bw w _ h2)).trans h2;have D:=hs.cap;have H:=fB ((hs.more (b:=w) pD).go F1.bl) ((hM.le F1.bl.size).cons (F1.mJ 0)) hb;clear hs hM hb h1 h2 F1;refine ent func181 ntmps181 ?_
 gi_wp2_with (first
  |(refine Cl 179 (Eu (M:=w::M) H.b (H.a.mid (lo:=(n-1)/2) (hi:=n/2+1) pj pj pj) (fun m q=>H.v m (om (lA q))) pj pj pj) ?_;rintro e J ⟨u,rfl,g,d⟩;obtain⟨z,B,i,y,Q,j,s,o,rfl,f⟩:=QC.of g;have W:=F.out.go d;have I:=aW W;have G:=Hd2 W f;clear g W f d)
  |fail)
 exact Bf
theorem Y8(w:World):(Instr.makeMap 232 none).run prog w=.ok (.map (some w.heap.size)) (w.alloc (.map #[] 0)):=by rfl
theorem Xm(w:World):(zeroValue 231).run prog w=.ok .nilFunc w:=pk
theorem JJ{c:bT}(hr:fJ (rX c)=true)(ho:Nv (rX c) m=true):0<=kC c m/\kC c m<=1000:=by
 obtain⟨⟨a,d,s⟩,h4,-⟩:=kP hr;unfold Nv at ho;unfold kC;unfold rX at a d s ho;simp only at a d s
 grind
theorem ajD(h:l.length=n):qJ (nm,lo,hi,st,1,tr,rv) l=eP ((gI (l.map (kC (nm,lo,hi,st,1,tr,rv)))).sum*(n:Int)) (n:Int):=by unfold qJ rU;simp[oJ,h]
theorem ajE(h:l.length=n):qJ (nm,lo,hi,st,2,(t:Int),rv) l=eP (((gI (l.map (kC (nm,lo,hi,st,2,(t:Int),rv)))).take (n-t)).drop t).sum ((n-t-t:Nat):Int):=by unfold qJ rU;simp[oJ,h];try(congr 1;all_goals omega)
theorem ajF(h:l.length=n)(h0:0<n):qJ (nm,lo,hi,st,3,tr,rv) l=eP (((gI (l.map (kC (nm,lo,hi,st,3,tr,rv)))).take (n/2+1)).drop ((n-1)/2)).sum ((n/2+1-(n-1)/2:Nat):Int):=by unfold qJ rU;simp[oJ,h];try(congr 1;all_goals omega)
theorem Ew{M':List Nat}(c:bT)(hM:b_ M w)(hs:Sl Int w M' A n cp l)(hr:fJ (rX c)=true)(ho:∀m,m∈l->Nv (rX c) m=true)(h0:0<n)(hn:n<=256)(ht:2*c.2.2.2.2.2.1<n):
 Calls prog 134 #[Qz c,.slice A n cp] w (QR w M (qJ c l)):=by
 refine wid ?_;obtain⟨-,-,⟨N,O⟩,⟨hh1,hh2⟩,-⟩:=kP hr;unfold rX at N O hh1 hh2;simp only at N O hh1 hh2;obtain⟨nm,lo,hi,st,f,tr,rv⟩:=c;simp only at ht N O hh1 hh2;obtain⟨t,rfl⟩:∃t:Nat,tr=(t:Int):=⟨tr.toNat,pj⟩;obtain⟨Q,hQ⟩:=aC (qJ (nm,lo,hi,st,f,(t:Int),rv) l);rw[hQ];have R:=Hd hQ;have Y:=Hd (fun V=>vX nm lo hi st f (t:Int) rv V);rw[show(⟨nm,lo,hi,st,f,(t:Int),rv⟩:DF)=rX (nm,lo,hi,st,f,(t:Int),rv)from rfl,hr]at Y;have ab:=Hd (fun V=>MW (nm,lo,hi,st,f,(t:Int),rv) A n cp V);have H:=oK hs hM hr ho hs.len;have am:((n:Int)==0)=false:=cU.2 pj;obtain⟨W1,al,F1⟩:=dR ((((Fr.nil w).a w [nm,lo,hi,st,f,t,rv] 59).a (w+1) [false,.slice none 0 0,false,.slice none 0 0] 48).a (w+2) [n] 3);have F:=Hd F1;have T:=aW F1;have mm:=Y8;clear hs hM hr ho hQ F1;have J:=fB (fun(e:f=1)=>(ajD (lo:=lo) (hi:=hi) (nm:=nm) (st:=st) (tr:=t) (rv:=rv) H.x)) (fun(e:f=2)=>(ajE (lo:=lo) (hi:=hi) (nm:=nm) (st:=st) (t:=t) (rv:=rv) H.x)) (fun(e:f=3)=>(ajF (lo:=lo) (hi:=hi) (nm:=nm) (st:=st) (tr:=t) (rv:=rv) H.x h0));obtain ag:f=1\/f=2\/f=3:=pj;refine ent func134 ntmps134 ?_
 gi_wp2_with (first
  |(have g:=ac.out;clear g;first|refine Cl 178 ad.out ?_|refine Cl 180 ae.out ?_|refine Cl 181 af.out ?_
    rintro e an ⟨u,rfl,z2,s⟩;obtain⟨p2,q2,A2,n2,c2,B2,C,d2,rfl,qc⟩:=QC.of z2;have W:=F.out.go s;have o2:=aW W;have G:=Hd2 W qc;clear z2 W qc s)
  |(have g:=Z.out;clear g;refine Cl 176 Z.out ?_;rintro e o ⟨B,d,rfl,I,hb4⟩;obtain⟨r,ai,F5⟩:=dR ((F.out.go hb4).a o [.slice B n d] 26);obtain⟨w6,e6⟩:=aC (r.alloc (.map #[] 0));have P:MV [.nilFunc,.func (.func 178) #[] #[.pointer (some ⟨o,0,none⟩),.pointer (some ⟨w+1+1,0,none⟩)],.func (.func 180) #[] #[.pointer (some ⟨o,0,none⟩),.pointer (some ⟨w,0,none⟩),.pointer (some ⟨w+1+1,0,none⟩)],.func (.func 181) #[] #[.pointer (some ⟨o,0,none⟩),.pointer (some ⟨w+1+1,0,none⟩)]] w6 r.heap.size 0 (fun _=>none):=by rw[<-e6];exact MV.new _ r
    have b:Below r r w6:=by rw[<-e6];exact(bL _ r).alloc pD _
    obtain⟨w7,r7,S,t7⟩:=P.store (k:=1) underlying232 pA (v:=.func (.func 178) #[] #[.pointer (some ⟨o,0,none⟩),.pointer (some ⟨w+1+1,0,none⟩)]) po pj;replace b:=b.grown t7.grown (cY P.lt) (fun q z=>by cases z;exact bj _);obtain⟨w8,r8,C,t8⟩:=S.store (k:=2) underlying232 pA (v:=.func (.func 180) #[] #[.pointer (some ⟨o,0,none⟩),.pointer (some ⟨w,0,none⟩),.pointer (some ⟨w+1+1,0,none⟩)]) po pj;replace b:=b.grown t8.grown (cY S.lt) (fun q z=>by cases z;exact bj _);obtain⟨w9,r9,m3,t9⟩:=C.store (k:=3) underlying232 pA (v:=.func (.func 181) #[] #[.pointer (some ⟨o,0,none⟩),.pointer (some ⟨w+1+1,0,none⟩)]) po pj;replace b:=b.grown t9.grown (cY C.lt) (fun q z=>by cases z;exact bj _);have D:Below o o r:=by rw[<-ai];exact(bL _ o).alloc pD _
    have hl:=m3.look (k:=f) underlying232 (Xm w9) po pA;have j:=F5.go b;have E:∀m,m∈gI (l.map (kC (nm,lo,hi,st,f,(t:Int),rv)))->0<=m/\m<=1000:=fun m L=>by obtain⟨m',ah,rfl⟩:=eE.1 (wI.1 L);exact JJ H.c (H.d m' ah)
    have ad:=Hd (ahc (M:=(w+1)::M) (b1:=o.heap.size) (b2:=w.heap.size+1+1) ((H.b.le j.bl.size).cons (j.mJ 1)) (j.aQ 3 0) (j.aQ 2 0) ((I.go D).go b) E h0 hn);have ae:=Hd (ahd (M:=(w+1)::M) (b1:=o.heap.size) (b2:=w.heap.size+1+1) (b3:=w.heap.size) (t:=t) ((H.b.le j.bl.size).cons (j.mJ 1)) (j.aQ 3 0) (j.aQ 2 0) (j.aQ 0 5) ((I.go D).go b) E pj hn);have af:=Hd (ahe (M:=(w+1)::M) (b1:=o.heap.size) (b2:=w.heap.size+1+1) ((H.b.le j.bl.size).cons (j.mJ 1)) (j.aQ 3 0) (j.aQ 2 0) ((I.go D).go b) E h0 hn);have T:=aW F5;have o2:=aW j;replace F:=Hd j;have ac:=Hd trivial;clear P S C m3 t7 t8 t9 b I hb4 F5 j D E;rcases ag with rfl|rfl|rfl;all_goals simp at hl)
  |(refine Cl 177 (ab.out _) ?_;rintro e w3 ⟨rfl,aa⟩;have F3:=((F.out.a p (DY (nm,lo,hi,st,f,(t:Int),rv)) 59).a (p+1) [.slice A n cp] 26);have K:Below p p w3:=by rw[<-aa];exact(pE.alloc pD _).alloc po _
    rw[aa]at F3;have X:=PD (M:=(w+1)::M) (g:=223) (eR func223 pk rfl) (PE (b1:=p.heap.size+1) (b2:=p.heap.size) (nm,lo,hi,st,f,(t:Int),rv) (F3.aQ 4 0) (fun i u hu=>(F3.at_ p.heap.size (DY (nm,lo,hi,st,f,(t:Int),rv)) po i u hu).1) ((H.a.less (M':= []) po).go F3.bl) H.c H.d) pD (by rw[ck,H.x];omega) (fun y hy=>by obtain⟨m,L,rfl⟩:=eE.1 hy;have:=JJ H.c (H.d m L);unfold i64;omega) ((H.b.le F3.bl.size).cons (F3.mJ 1));rw[ck,H.x]at X;have Z:=Hd X;have W:=F.out.go K;have T:=aW W;replace F:=Hd W;have ak:=Hd K;clear X W F3 K)
  |(refine Cl 173 (Y.out _) ?_;rintro e p ⟨rfl,s⟩;have W:=F.out.go s;have T:=aW W;replace F:=Hd W;clear W s)
  |fail)
 all_goals
  obtain⟨wF,aj,t0,t1,t2,t3,hQ,bF⟩:=nN (M:=M) (G.a.aQ 1 0) (G.a.aQ 1 1) (G.a.aQ 1 2) (G.a.aQ 1 3) (x:=_) G.u.num.sl G.u.den.sl G.u.num.neg G.u.den.neg G.a.bl (ja _);try rw[aj]
  first|rw[<-J.a pC,R.out]at hQ|rw[<-J.b pC,R.out]at hQ|rw[<-J.v pC,R.out]at hQ
  exact⟨rfl,.tuple #[.agg #[p2,.slice A2 n2 c2,q2,.slice B2 C d2],.int .i64 0],by simp[results,go_sem,t0,t1,t2,t3],_,rfl,hQ,bF⟩
end
