/- Lemmas. -/
import Derived.Sort.OwnSortedInts
import Derived.Test.YtfdmnogfflcllaaGreatDoorM33
import Derived.Test.YtfdmnogfflcllaaGreatDoorM34
import Derived.Test.YtfdmnogfflcllaaGreatDoorM15
set_option linter.unusedVariables false
set_option linter.unusedSimpArgs false
set_option maxRecDepth 100000
set_option maxHeartbeats 20000000
namespace Go.Proofs.YtfdmnogfflcllaaGreatDoor
open Go.Proofs.Tryz Go.RowKit Go.Shelf
theorem Bc{p:Prop}(h:p:=by
 obtain⟨O,q,B,C,D,E,hQ,i⟩:=nN (M:=M) (G.a.aQ 0 0) (G.a.aQ 0 1) (G.a.aQ 0 2) (G.a.aQ 0 3) (x:=_) G.u.num.sl G.u.den.sl G.u.num.neg G.u.den.neg G.a.bl pc;try rw[q]
 rw[Int.mul_one]at hQ;exact⟨rfl,.tuple #[.agg #[.bool y,.slice g s j,.bool z,.slice h r k],.int .i64 0],by simp[results,go_sem,B,C,D,E],by exact⟨_,rfl,hQ,i⟩⟩):p:=h
variable {l:List Int}{x m b lo hi st tr:Int}{M:List Nat}{w:World}{c b1 b2 n cp t:Nat}{A:Option Addr}{nm:ByteArray}{rv:Bool}
section
attribute [local go_sem] cK
theorem oJ(l:List Int):(gI l).length=l.length:=List.length_mergeSort ..
theorem wI:x∈gI l↔x∈l:=(List.mergeSort_perm _ _).mem_iff
theorem PD{n0 g:Nat}{lb:Array Value}{ys:List Int}(eg:∀args w,(callFunc g args).run prog w=.ok (.enter g args) w)(hseq:Pz g lb n0 ys w)(hn:n0<=w.heap.size)(hl:ys.length<=1000)(hy:∀y,y∈ys->i64 y)(hM:b_ M w):
 Calls prog 176 #[.func (.func g) #[] lb] w fun e w'=>∃A c,e=.returned (.slice A ys.length c)/\Sl Int w' M A ys.length c (gI ys)/\Below w w w':=by
 refine wid ?_;obtain⟨Y,o⟩:=aC (gI ys);have HY:=Hd o;rw[o];refine ent func176 rfl ntmps176 ?_
 gi_wp2_with (first
  |(refine Cl 221 (MR eg hseq hn hl) ?_;rintro e h ⟨v,rfl,C,hb⟩;obtain⟨V,i⟩:=aC v)
  |fail)
 rcases C.2 with⟨rfl,D⟩|⟨d,r,K,rfl,p,a,E,F,H,I⟩
 ·obtain rfl:ys= []:=List.eq_nil_of_length_eq_zero D;subst i
  gi_wp2_with (first
   |(refine Cl 222 (slices_Sort_int_none none 0 h) ?_;rintro e J ⟨rfl,rfl⟩)
   |fail)
  go_ret;refine⟨none,0,rfl,?_,hb⟩;rw[<-HY.out,show gI []=([]:List Int)from by simp[gI]];exact Sl.nil0
 ·have f:=holds_of_blockI a (by simpa using I);have s:d<h.heap.size:=(cS.1 a).1;have q:=Hd (slices_Sort_int d 0 r ys h f s oE);subst i;clear f
  gi_wp2_with (first
   |(refine Cl 222 q.out ?_;rintro e J ⟨rfl,m,os,rfl⟩)
   |fail)
  go_ret;have B:=ownsRow_sortedI (n:=m) (os:=os) (ts:=gI ys) (oJ ys) p a E F H;obtain⟨A,c,G,hs⟩:=Sl.BO (M:=M) B (fun x hx=>hy x (wI.1 hx)) oE (fun k z=>hM k z);cases G;exact⟨_,_,rfl,by rw[<-HY.out];exact hs,hb.grown (grownBy_sortedI _) hb.size (fun j u=>by cases u;exact p)⟩
theorem JH{β:Type}{B:Nat}{J:β->World->Prop}(h:AbidesFrom B J){s:β}{W W':World}(hj:J s W)(hb:Below W W W'):J s W':=h s W W' none hj ⟨hb.os,hb.tape,hb.output,hb.size,fun k hk _=>hb.block k hk⟩ (fun r e=>by cases e)
theorem MS{c:bT}(hr:fJ (rX c)=true)(ho:Nv (rX c) m=true):pz (rX c) m=(kC c m,0):=by unfold pz kC;rw[if_pos hr,if_pos ho];rfl
theorem MW(c:bT)(A:Option Addr)(n cp:Nat)(w:World):
 Calls prog 177 #[Qz c,.slice A n cp] w fun e w'=>e=.returned (.func (.func 223) #[] #[.pointer (some ⟨w+1,0,none⟩),.pointer (some ⟨w,0,none⟩)])/\(w.alloc (.cells (DY c).toArray 59)).alloc (.cells #[.slice A n cp] 26)=w':=by
 refine wid ?_;refine ent func177 rfl ntmps177 ?_;gi_wp2;go_ret;exact⟨rfl,rfl⟩
theorem PE(c:bT)(h1:w.cell? ⟨b1,0,none⟩=some (.slice A n cp))(h2:∀i u,(DY c)[i]?=some u->w.cell? ⟨b2,i,none⟩=some u)(hs:Sl Int w [] A n cp l)(hr:fJ (rX c)=true)(ho:∀m,m∈l->Nv (rX c) m=true):
 Pz 223 #[.pointer (some ⟨b1,0,none⟩),.pointer (some ⟨b2,0,none⟩)] w.heap.size (l.map (kC c)) w:=by
 intro lp J V W j C R F D;have aa:=hs.small;have H:=h_ hs hr ho hs.len;have K:=Hd C;have N:=Hd F;have L:=Hd D;have f:=Hd2 h1 h2;have T:b1<w.heap.size:=bu w _ h1;have g:b2<w.heap.size:=bu w _ (h2 0 _ rfl);have e1:W.cell? ⟨b1,0,none⟩=_:=(j.cell (p:=⟨b1,0,none⟩) T).trans h1;have P:=Hd j;clear hs F D h1 h2 hr ho C R j;simp only[fk,dx,de];refine ent func223 rfl ntmps223 ?_;gi_wp2;gi_loopw[10] (fun i wr=>∃k:Nat,k<=n/\i=.int .i64 k/\Hid (J ((l.take k).map (kC c)) wr)/\Hid (Below w w wr)) (fun i _=>n-(intOf i).toNat);case atStart=>exact⟨0,bO _,rfl,L.out,P⟩
 case round=>
  obtain⟨k,S,rfl,s,d⟩:=hrel;by_cases E:k<n
  ·obtain⟨b,o,y,rfl,c0,-,-,v⟩:=(H.a.go d.out).pR E;have u0:wr.cell? ⟨b2,0,none⟩=_:=(d.out.cell (p:=⟨b2,0,none⟩) g).trans (f.u 0 _ rfl);have u1:wr.cell? ⟨b2,1,none⟩=_:=(d.out.cell (p:=⟨b2,1,none⟩) g).trans (f.u 1 _ rfl);have u2:wr.cell? ⟨b2,2,none⟩=_:=(d.out.cell (p:=⟨b2,2,none⟩) g).trans (f.u 2 _ rfl);have u3:wr.cell? ⟨b2,3,none⟩=_:=(d.out.cell (p:=⟨b2,3,none⟩) g).trans (f.u 3 _ rfl);have u4:wr.cell? ⟨b2,4,none⟩=_:=(d.out.cell (p:=⟨b2,4,none⟩) g).trans (f.u 4 _ rfl);have u5:wr.cell? ⟨b2,5,none⟩=_:=(d.out.cell (p:=⟨b2,5,none⟩) g).trans (f.u 5 _ rfl);have u6:wr.cell? ⟨b2,6,none⟩=_:=(d.out.cell (p:=⟨b2,6,none⟩) g).trans (f.u 6 _ rfl);have HB:=Hd (DJ c.1 c.2.1 c.2.2.1 c.2.2.2.1 c.2.2.2.2.1 c.2.2.2.2.2.1 c.2.2.2.2.2.2 y wr);have r:=MS H.b (H.c y (aR v));obtain⟨z,B⟩:=aC (kC c y);rw[B]at r;rw[show(⟨c.1,c.2.1,c.2.2.1,c.2.2.2.1,c.2.2.2.2.1,c.2.2.2.2.2.1,c.2.2.2.2.2.2⟩:DF)=rX c from rfl,r]at HB;have HY:=Hd2 v B;clear v B r
   gi_wp2_with (first
    |(refine Cl 127 HB.out ?_;rintro e U ⟨rfl,q⟩;obtain⟨fn,ac,Y,Z,ab,Q⟩:=N.out _ z U (JH K.out s.out q) (by rw[cC,cC,cI,H.w];omega);have O:=Hd Q;have G:=Hd (d.out.trans (q.mono d.out.size));clear Q q)
    |(refine O.out.mono ?_;rintro e X (⟨rfl,hJ3,hk3⟩|⟨rfl,hx3⟩)))
   ·exact⟨⟨k+1,oE,by go_num,Hd (by rw[take_snoc HY.a,eO,List.map_singleton,HY.u];exact hJ3),Hd (G.out.trans hk3)⟩,by simp[intOf];omega⟩
   refine bodyPost_ret (results_none rfl _ _ _) rfl ?_;exact⟨⟨_,rfl⟩,.inr ⟨_,bq,hx3⟩⟩
  ·obtain rfl:k=n:=oE;have I:=Hd (show J (l.map (kC c)) wr by have h:=s.out;rwa [bL (by rw[H.w];exact bh _)]at h);clear S E s;gi_wp2;go_end0;exact⟨⟨_,rfl⟩,.inl ⟨_,rfl,I.out⟩⟩
theorem agQ(h:∀m,m∈l->0<=m/\m<=b):0<=l.sum/\l.sum<=b*l.length:=by
 induction l with
 |nil=>simp
 |cons x l ih=>
  have a:=ih fun m k=>h m (bz _ k);have d:=h x cd;have e:b*((x::l).length:Int)=b*l.length+b:=by rw[et,ju,ml];simp
  rw[mf,e];omega
theorem JI{y a:Int}(hx:0<=x/\x<=a)(hy:0<=y/\y<=b):0<=x*y/\x*y<=a*b:=⟨mN hx.1 hy.1,mS hx.2 hy.2 hy.1 oE⟩
theorem Eu{t:Int}(hM:b_ M w)(hs:Sl Int w M A n c l)(hb:∀m,m∈l->0<=m/\m<=1000)(h0:0<n)(hn:n<=256)(ht:0<=t/\t<=256):
 Calls prog 179 #[.slice A n c,.int .i64 t] w fun e w'=>∃u,e=.returned (.tuple #[u,.int .i64 0])/\QW w' M u (eP (l.sum*t) n)/\Below w w w':=by
 refine wid ?_;obtain⟨W1,ab,F1⟩:=dR ((Fr.nil w).a w [.bool false,.slice none 0 0,.bool false,.slice none 0 0] 48);have F:=Hd F1;have o1:=aW F1;have C:=agQ hb;rw[hs.len]at C;have Q:=JI C ht;have p:=Hd2 hb Q;have H:=fB (hs.go F1.bl) hs.len ((hM.le F1.bl.size).cons (F1.mJ 0));clear hs hb hM F1;refine ent func179 rfl ntmps179 ?_;gi_wp2;gi_loopw[6,11] (fun s i wr=>∃(k:Nat) (S:Int),k<=n/\s=.int .i64 S/\i=.int .i64 k/\W1=wr/\(0<=S/\S<=1000*(k:Int))/\Hid (S+(l.drop k).sum=l.sum)) (fun _ i _=>n-(intOf i).toNat);case atStart=>exact⟨0,0,bO _,rfl,rfl,rfl,oO,Hd oO⟩
 case round=>
  obtain⟨k,S,P,rfl,rfl,rfl,aa,f⟩:=hrel;by_cases B:k<n;·obtain⟨b,o,y,rfl,c0,-,z,D⟩:=H.a.pR B;have ac:=p.a y (aR D);have O:=Hd (show S+y+(l.drop (k+1)).sum=l.sum by have h:=f.out;rw[z,mf]at h;omega);clear z f D;gi_wp2;exact⟨⟨k+1,S+y,oE,by go_num,by go_num,bq,oE,O⟩,by simp[intOf];omega⟩
  ·obtain rfl:k=n:=oE;have g:S=l.sum:=by have h:=f.out;rw[cA (by rw[H.b];exact bh _)]at h;simpa using h
   have q:=p.u;rw[<-g]at q;have hw:IntKind.i64.wrap (S*t)=S*t:=by rw[bR];omega
   have j:=Hd2 (show i64 (S*t) by unfold i64;omega) g;clear P B f g q
   gi_wp2_with (first
    |(refine Cl 78 (uP (M:=w::M) (n:=S*t) (d:=(k:Int)) H.v j.a oV oE) ?_;rintro e w2 ⟨u,rfl,W,r⟩;obtain⟨X,Y,I,V,L,J,T,N,rfl,E⟩:=QC.of W;have U:=F.out.go r;have o2:=aW U;have G:=Hd2 U E;clear W U E r)
    |fail)
   obtain⟨wF,R,Z,t1,t2,t3,hQ,K⟩:=nN (M:=M) (G.a.aQ 0 0) (G.a.aQ 0 1) (G.a.aQ 0 2) (G.a.aQ 0 3) (x:=eP (S*t) k) G.u.num.sl G.u.den.sl G.u.num.neg G.u.den.neg G.a.bl pc;try rw[R]
   rw[j.u]at hQ;exact⟨rfl,.tuple #[.agg #[.bool X,.slice I V L,.bool Y,.slice J T N],.int .i64 0],by simp[results,go_sem,Z,t1,t2,t3],_,rfl,hQ,K⟩
theorem Sl.mid(h:Sl Int w M A n c l){lo hi:Nat}(h0:lo<n)(h1:lo<=hi)(h2:hi<=n):Sl Int w M (A.map fun x=>x.add lo) (hi-lo) (n-lo) ((l.take hi).drop lo):=by
 have g:=h.nY h2;have P:Sl Int w M A hi n (l.take hi):=⟨g.len,h2,cD h.cap h.room,g.small,g.at_⟩;have d:=P.cut (sz:=1) h1 rfl
 rwa [wZ,if_neg oE,show(fun a:Addr=>a.add (lo*1))=fun x=>x.add lo from by simp]at d
theorem agR(hM:b_ M w)(h1:w.cell? ⟨b1,0,none⟩=some (.slice A n c))(h2:w.cell? ⟨b2,0,none⟩=some (.int .i64 n))(hs:Sl Int w M A n c l)(hb:∀m,m∈l->0<=m/\m<=1000)(h0:0<n)(hn:n<=256):
 Calls prog 178 #[.pointer (some ⟨b1,0,none⟩),.pointer (some ⟨b2,0,none⟩)] w (QR w M (eP (l.sum*n) n)):=by
 refine wid ?_;obtain⟨W1,E,F1⟩:=dR ((Fr.nil w).a w [.bool false,.slice none 0 0,.bool false,.slice none 0 0] 48);have F:=Hd F1;have J:=aW F1;have v1:=(F1.bl.cell (p:=⟨b1,0,none⟩) (bu w _ h1)).trans h1;have v2:=(F1.bl.cell (p:=⟨b2,0,none⟩) (bu w _ h2)).trans h2;have I:=hs.cap;have H:=fB ((hs.more (b:=w) pc).go F1.bl) ((hM.le F1.bl.size).cons (F1.mJ 0)) hb;clear hs hM hb h1 h2 F1;refine ent func178 rfl ntmps178 ?_
 gi_wp2_with (first
  |(refine Cl 179 (Eu (M:=w::M) H.b H.a H.v h0 hn oE) ?_;rintro e L ⟨u,rfl,W,d⟩;obtain⟨s,y,g,r,j,h,q,k,rfl,f⟩:=QC.of W;have U:=F.out.go d;have K:=aW U;have G:=Hd2 U f;clear W U f d)
  |fail)
 obtain⟨N,o,z,B,C,D,hQ,i⟩:=nN (M:=M) (G.a.aQ 0 0) (G.a.aQ 0 1) (G.a.aQ 0 2) (G.a.aQ 0 3) (x:=_) G.u.num.sl G.u.den.sl G.u.num.neg G.u.den.neg G.a.bl pc;try rw[o]
 exact⟨rfl,.tuple #[.agg #[.bool s,.slice g r j,.bool y,.slice h q k],.int .i64 0],by simp[results,go_sem,z,B,C,D],by exact⟨_,rfl,hQ,i⟩⟩
theorem agS{b3:Nat}(hM:b_ M w)(h1:w.cell? ⟨b1,0,none⟩=some (.slice A n c))(h2:w.cell? ⟨b2,0,none⟩=some (.int .i64 n))(h3:w.cell? ⟨b3,5,none⟩=some (.int .i64 t))(hs:Sl Int w M A n c l)(hb:∀m,m∈l->0<=m/\m<=1000)(h0:2*t<n)(hn:n<=256):
 Calls prog 180 #[.pointer (some ⟨b1,0,none⟩),.pointer (some ⟨b3,0,none⟩),.pointer (some ⟨b2,0,none⟩)] w (QR w M (eP ((l.take (n-t)).drop t).sum ((n-t-t:Nat):Int))):=by
 refine wid ?_;obtain⟨W1,I,F1⟩:=dR ((Fr.nil w).a w [.bool false,.slice none 0 0,.bool false,.slice none 0 0] 48);have F:=Hd F1;have K:=aW F1;have v1:=(F1.bl.cell (p:=⟨b1,0,none⟩) (bu w _ h1)).trans h1;have v2:=(F1.bl.cell (p:=⟨b2,0,none⟩) (bu w _ h2)).trans h2;have J:=hs.cap;have H:=fB ((hs.more (b:=w) pc).go F1.bl) ((hM.le F1.bl.size).cons (F1.mJ 0)) hb;have v3:=(F1.bl.cell (p:=⟨b3,5,none⟩) (bu w _ h3)).trans h3;clear hs hM hb h1 h2 h3 F1;refine ent func180 rfl ntmps180 ?_
 gi_wp2_with (first
  |(refine Cl 179 (Eu (M:=w::M) H.b (H.a.mid (lo:=t) (hi:=n-t) oE oE oE) (fun m o=>H.v m (nx (kI o))) oE oE oE) ?_;rintro e N ⟨u,rfl,W,d⟩;obtain⟨y,z,g,s,j,h,r,k,rfl,f⟩:=QC.of W;have U:=F.out.go d;have L:=aW U;have G:=Hd2 U f;clear W U f d)
  |fail)
 exact Bc
theorem agT(hM:b_ M w)(h1:w.cell? ⟨b1,0,none⟩=some (.slice A n c))(h2:w.cell? ⟨b2,0,none⟩=some (.int .i64 n))(hs:Sl Int w M A n c l)(hb:∀m,m∈l->0<=m/\m<=1000)(h0:0<n)(hn:n<=256):
 Calls prog 181 #[.pointer (some ⟨b1,0,none⟩),.pointer (some ⟨b2,0,none⟩)] w (QR w M (eP ((l.take (n/2+1)).drop ((n-1)/2)).sum ((n/2+1-(n-1)/2:Nat):Int))):=by
 refine wid ?_;obtain⟨W1,I,F1⟩:=dR ((Fr.nil w).a w [.bool false,.slice none 0 0,.bool false,.slice none 0 0] 48);have F:=Hd F1;have K:=aW F1;have v1:=(F1.bl.cell (p:=⟨b1,0,none⟩) (bu w _ h1)).trans h1;have v2:=(F1.bl.cell (p:=⟨b2,0,none⟩) (bu w _ h2)).trans h2;have J:=hs.cap;have H:=fB ((hs.more (b:=w) pc).go F1.bl) ((hM.le F1.bl.size).cons (F1.mJ 0)) hb;clear hs hM hb h1 h2 F1;refine ent func181 rfl ntmps181 ?_
 gi_wp2_with (first
  |(refine Cl 179 (Eu (M:=w::M) H.b (H.a.mid (lo:=(n-1)/2) (hi:=n/2+1) oE oE oE) (fun m o=>H.v m (nx (kI o))) oE oE oE) ?_;rintro e N ⟨u,rfl,W,d⟩;obtain⟨y,z,g,s,j,h,r,k,rfl,f⟩:=QC.of W;have U:=F.out.go d;have L:=aW U;have G:=Hd2 U f;clear W U f d)
  |fail)
 exact Bc
theorem Y8(w:World):(Instr.makeMap 232 none).run prog w=.ok (.map (some w.heap.size)) (w.alloc (.map #[] 0)):=by rfl
theorem Xm(w:World):(zeroValue 231).run prog w=.ok .nilFunc w:=oF
theorem JJ{c:bT}(hr:fJ (rX c)=true)(ho:Nv (rX c) m=true):0<=kC c m/\kC c m<=1000:=by
 obtain⟨⟨a,d,r⟩,h4,-⟩:=kP hr;unfold Nv at ho;unfold kC;unfold rX at a d r ho;simp only at a d r
 grind
theorem ajj(h:l.length=n):qJ (nm,lo,hi,st,1,tr,rv) l=eP ((gI (l.map (kC (nm,lo,hi,st,1,tr,rv)))).sum*(n:Int)) (n:Int):=by unfold qJ rU;simp[oJ,h]
theorem ajk(h:l.length=n):qJ (nm,lo,hi,st,2,(t:Int),rv) l=eP (((gI (l.map (kC (nm,lo,hi,st,2,(t:Int),rv)))).take (n-t)).drop t).sum ((n-t-t:Nat):Int):=by unfold qJ rU;simp[oJ,h];try(congr 1;all_goals omega)
theorem ajl(h:l.length=n)(h0:0<n):qJ (nm,lo,hi,st,3,tr,rv) l=eP (((gI (l.map (kC (nm,lo,hi,st,3,tr,rv)))).take (n/2+1)).drop ((n-1)/2)).sum ((n/2+1-(n-1)/2:Nat):Int):=by unfold qJ rU;simp[oJ,h];try(congr 1;all_goals omega)
theorem Ew{M':List Nat}(c:bT)(hM:b_ M w)(hs:Sl Int w M' A n cp l)(hr:fJ (rX c)=true)(ho:∀m,m∈l->Nv (rX c) m=true)(h0:0<n)(hn:n<=256)(ht:2*c.2.2.2.2.2.1<n):
 Calls prog 134 #[Qz c,.slice A n cp] w (QR w M (qJ c l)):=by
 refine wid ?_;obtain⟨-,-,⟨K,L⟩,⟨hh1,hh2⟩,-⟩:=kP hr;unfold rX at K L hh1 hh2;simp only at K L hh1 hh2;obtain⟨nm,lo,hi,st,f,tr,rv⟩:=c;simp only at ht K L hh1 hh2;obtain⟨t,rfl⟩:∃t:Nat,tr=(t:Int):=⟨tr.toNat,oE⟩;obtain⟨Q,hQ⟩:=aC (qJ (nm,lo,hi,st,f,(t:Int),rv) l);rw[hQ];have Z:=Hd hQ;have R:=Hd (fun V=>vX nm lo hi st f (t:Int) rv V);rw[show(⟨nm,lo,hi,st,f,(t:Int),rv⟩:DF)=rX (nm,lo,hi,st,f,(t:Int),rv)from rfl,hr]at R;have aa:=Hd (fun V=>MW (nm,lo,hi,st,f,(t:Int),rv) A n cp V);have H:=oK hs hM hr ho hs.len;have al:((n:Int)==0)=false:=cU.2 oE;obtain⟨W1,ak,F1⟩:=dR ((((Fr.nil w).a w [.string nm,.int .i64 lo,.int .i64 hi,.int .i64 st,.int .i64 f,.int .i64 t,.bool rv] 59).a (w+1) [.bool false,.slice none 0 0,.bool false,.slice none 0 0] 48).a (w+2) [.int .i64 n] 3);have F:=Hd F1;have P:=aW F1;have mm:=Y8;clear hs hM hr ho hQ F1;have E:=fB (fun(e:f=1)=>(ajj (lo:=lo) (hi:=hi) (nm:=nm) (st:=st) (tr:=t) (rv:=rv) H.x)) (fun(e:f=2)=>(ajk (lo:=lo) (hi:=hi) (nm:=nm) (st:=st) (t:=t) (rv:=rv) H.x)) (fun(e:f=3)=>(ajl (lo:=lo) (hi:=hi) (nm:=nm) (st:=st) (tr:=t) (rv:=rv) H.x h0));obtain af:f=1\/f=2\/f=3:=oE;refine ent func134 rfl ntmps134 ?_
 gi_wp2_with (first
  |(have g:=ab.out;clear g;first|refine Cl 178 ac.out ?_|refine Cl 180 ad.out ?_|refine Cl 181 ae.out ?_
    rintro e am ⟨u,rfl,z2,p⟩;obtain⟨p2,q2,A2,n2,c2,B2,s,d2,rfl,qc⟩:=QC.of z2;have U:=F.out.go p;have o2:=aW U;have G:=Hd2 U qc;clear z2 U qc p)
  |(have g:=S.out;clear g;refine Cl 176 S.out ?_;rintro e T ⟨B,d,rfl,D,hb4⟩;obtain⟨o,ah,F5⟩:=dR ((F.out.go hb4).a T [.slice B n d] 26);obtain⟨w6,W⟩:=aC (o.alloc (.map #[] 0));have N:MV [.nilFunc,.func (.func 178) #[] #[.pointer (some ⟨T,0,none⟩),.pointer (some ⟨w+1+1,0,none⟩)],.func (.func 180) #[] #[.pointer (some ⟨T,0,none⟩),.pointer (some ⟨w,0,none⟩),.pointer (some ⟨w+1+1,0,none⟩)],.func (.func 181) #[] #[.pointer (some ⟨T,0,none⟩),.pointer (some ⟨w+1+1,0,none⟩)]] w6 o.heap.size 0 (fun _=>none):=by rw[<-W];exact MV.new _ o
    have b:Below o o w6:=by rw[<-W];exact(bw _ o).alloc pc _
    obtain⟨w7,r7,O,t7⟩:=N.store (k:=1) underlying232 oV (v:=.func (.func 178) #[] #[.pointer (some ⟨T,0,none⟩),.pointer (some ⟨w+1+1,0,none⟩)]) oO oE;replace b:=b.grown t7.grown (cX N.lt) (fun q r=>by cases r;exact bh _);obtain⟨w8,r8,s,t8⟩:=O.store (k:=2) underlying232 oV (v:=.func (.func 180) #[] #[.pointer (some ⟨T,0,none⟩),.pointer (some ⟨w,0,none⟩),.pointer (some ⟨w+1+1,0,none⟩)]) oO oE;replace b:=b.grown t8.grown (cX O.lt) (fun q r=>by cases r;exact bh _);obtain⟨w9,r9,m3,t9⟩:=s.store (k:=3) underlying232 oV (v:=.func (.func 181) #[] #[.pointer (some ⟨T,0,none⟩),.pointer (some ⟨w+1+1,0,none⟩)]) oO oE;replace b:=b.grown t9.grown (cX s.lt) (fun q r=>by cases r;exact bh _);have z:Below T T o:=by rw[<-ah];exact(bw _ T).alloc pc _
    have hl:=m3.look (k:=f) underlying232 (Xm w9) oO oV;have h:=F5.go b;have C:∀m,m∈gI (l.map (kC (nm,lo,hi,st,f,(t:Int),rv)))->0<=m/\m<=1000:=fun m J=>by obtain⟨m',ag,rfl⟩:=ev.1 (wI.1 J);exact JJ H.c (H.d m' ag)
    have ac:=Hd (agR (M:=(w+1)::M) (b1:=T.heap.size) (b2:=w.heap.size+1+1) ((H.b.le h.bl.size).cons (h.mJ 1)) (h.aQ 3 0) (h.aQ 2 0) ((D.go z).go b) C h0 hn);have ad:=Hd (agS (M:=(w+1)::M) (b1:=T.heap.size) (b2:=w.heap.size+1+1) (b3:=w.heap.size) (t:=t) ((H.b.le h.bl.size).cons (h.mJ 1)) (h.aQ 3 0) (h.aQ 2 0) (h.aQ 0 5) ((D.go z).go b) C oE hn);have ae:=Hd (agT (M:=(w+1)::M) (b1:=T.heap.size) (b2:=w.heap.size+1+1) ((H.b.le h.bl.size).cons (h.mJ 1)) (h.aQ 3 0) (h.aQ 2 0) ((D.go z).go b) C h0 hn);have P:=aW F5;have o2:=aW h;replace F:=Hd h;have ab:=Hd trivial;clear N O s m3 t7 t8 t9 b D hb4 F5 h z C;rcases af with rfl|rfl|rfl;all_goals simp at hl)
  |(refine Cl 177 (aa.out _) ?_;rintro e w3 ⟨rfl,Y⟩;have F3:=((F.out.a j (DY (nm,lo,hi,st,f,(t:Int),rv)) 59).a (j+1) [.slice A n cp] 26);have I:Below j j w3:=by rw[<-Y];exact(pd.alloc pc _).alloc oO _
    rw[Y]at F3;have X:=PD (M:=(w+1)::M) (g:=223) (eK func223 oF rfl) (PE (b1:=j.heap.size+1) (b2:=j.heap.size) (nm,lo,hi,st,f,(t:Int),rv) (F3.aQ 4 0) (fun i u hu=>(F3.at_ j.heap.size (DY (nm,lo,hi,st,f,(t:Int),rv)) oO i u hu).1) ((H.a.less (M':= []) oO).go F3.bl) H.c H.d) pc (by rw[cC,H.x];omega) (fun y hy=>by obtain⟨m,J,rfl⟩:=ev.1 hy;have:=JJ H.c (H.d m J);unfold i64;omega) ((H.b.le F3.bl.size).cons (F3.mJ 1));rw[cC,H.x]at X;have S:=Hd X;have U:=F.out.go I;have P:=aW U;replace F:=Hd U;have aj:=Hd I;clear X U F3 I)
  |(refine Cl 173 (R.out _) ?_;rintro e j ⟨rfl,p⟩;have U:=F.out.go p;have P:=aW U;replace F:=Hd U;clear U p)
  |fail)
 all_goals
  obtain⟨wF,ai,t0,t1,t2,t3,hQ,bF⟩:=nN (M:=M) (G.a.aQ 1 0) (G.a.aQ 1 1) (G.a.aQ 1 2) (G.a.aQ 1 3) (x:=_) G.u.num.sl G.u.den.sl G.u.num.neg G.u.den.neg G.a.bl (iH _);try rw[ai]
  first|rw[<-E.a oY,Z.out]at hQ|rw[<-E.b oY,Z.out]at hQ|rw[<-E.v oY,Z.out]at hQ
  exact⟨rfl,.tuple #[.agg #[.bool p2,.slice A2 n2 c2,.bool q2,.slice B2 s d2],.int .i64 0],by simp[results,go_sem,t0,t1,t2,t3],_,rfl,hQ,bF⟩
end
