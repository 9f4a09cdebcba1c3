/- Lemmas -/
import Derived.Test.YtfdmnogfflcllaaGreatDoorM21
set_option linter.all false
set_option maxRecDepth 100000
set_option maxHeartbeats 0
namespace Go.Proofs.YtfdmnogfflcllaaGreatDoor
open Go.Proofs.Tryz Go.RowKit Go.Shelf
theorem Az{p:Prop}(h:p:=by
 refine aH fun K E=>aA rfl rfl wy fun K' F=>?_;gi_wp2;refine Cl 146 aF.out ?_;rintro e w6 ⟨⟨i6,rfl,ZY⟩,rfl⟩;have be:=Hd (lV ZY);obtain⟨d,hd⟩:=aC (i6 !=(k:Int));have HD:=Hd hd;clear ZY;refine F _ _ ⟨?_,E _ _ ?_⟩;clear F K' E K;·exact fl _ _
 refine lit ?_;refine eH ?_;refine aK ?_;refine lit ?_;gi_wp2;exact⟨⟨k+1,_,_,pj,rfl,rfl,by go_num,Hd ⟨by rw[dZ _ ZX.out,<-iv,Jk.a,aE.out];rfl,by rw[yu ZX.out,<-ma,Jk.u,jz,<-HD.out,be.out];exact Qs _ _⟩,ax.out.drew⟩,by simp[intOf];omega⟩):p:=h
theorem EI{p:Prop}(h:p:=by refine aK ?_;refine lit ?_;gi_wp2;exact⟨⟨k+1,_,_,pj,rfl,rfl,by go_num,Hd ⟨by rw[dZ _ ZX.out,<-iv,Jk.a,aE.out];rfl,by rw[yu ZX.out,<-ma,Jk.u,nB]⟩,ax.out.drew⟩,by simp[intOf];omega⟩):p:=h
theorem JL{p:Prop}(h:p:=by have:=KT (XL.out 0) (XL.out 3) (XL.out 2) HY.u;rw[show iW (NY r 0) (NY r 3) (NY r 2) y=(k1,k2,k3)from aw.a]at this;exact this):p:=h
theorem QK{p:Prop}(h:p:=by unfold KeR;exact⟨kk+1,_,_,pj,rfl,by go_num,Hd (by rw[dZ _ HY.a,<-iv,al.out,aw.u];rfl),N.u⟩):p:=h
variable {k:Nat}{w:World}{M:List Nat}{r:aS}
structure XK(w wr:World)(r:aS)(R:List Value)(lb:Nat)(t0 t1 t2 t3:dK):Prop where
 fr:Fr w wr [(w.heap.size,R),(w.heap.size+1,nR),(lb,Af t0 t1 t2 t3)]
 nm:JO wr [] r t0 t1 t2 t3
theorem XK.drew{w wr:World}{r:aS}{R:List Value}{lb:Nat}{t0 t1 t2 t3:dK}(h:XK w wr r R lb t0 t1 t2 t3):XK w wr.drew r R lb t0 t1 t2 t3:=⟨h.fr.drew,h.nm.go pE.drew⟩
theorem Qs(a b:Int):decide (¬a=b)=(a !=b):=by by_cases h:a=b<;>simp[h]
theorem yu{nm:List ByteArray}{s:ByteArray}(h:nm[k]?=some s):vN nm (k+1)=(vN nm k||decide (¬dO nm s=(k:Int))):=by show(vN nm k||decide (¬dO nm (nm.getD k ByteArray.empty)=(k:Int)))=_;rw[cC,h];rfl
theorem JO.ah0{w':World}{t0 t1 t2 t3:dK}{b:Nat}(h:JO w M r t0 t1 t2 t3)(hb:w.heap.size<=b)(k:Keeps (b::M) w w'):JO w' (b::M) r t0 t1 t2 t3:=⟨(h.c.more hb).keep k,(h.i.more hb).keep k,(h.t.more hb).keep k,(h.r.more hb).keep k⟩
theorem KT{cn rn tn:List ByteArray}{k:bK}(h1:cn.length<=2000)(h2:rn.length<=2000)(h3:tn.length<=2000)(hi:i64 k.1/\i64 k.2.2):i64 (iW cn rn tn k).1/\i64 (iW cn rn tn k).2.2:=by
 refine⟨by rw[(agt cn rn tn k).1];exact hi.1,?_⟩;have a:=oW cn k.2.1;have b:=oW rn k.2.1;have c:=oW tn k.2.1;have d:=hi.2;unfold iW i64 at*
 split;·show-9223372036854775808<=dO cn k.2.1/\dO cn k.2.1<=_;omega
 split;·show-9223372036854775808<=dO rn k.2.1/\dO rn k.2.1<=_;omega
 split;·show-9223372036854775808<=dO tn k.2.1/\dO tn k.2.1<=_;omega
 exact d
theorem qI{α β:Type}(f:α->β){l:List α}{y:α}(h:l[k]?=some y):(l.take k).map f++ [f y]=(l.take (k+1)).map f:=by rw[dm,h,ed];rfl
theorem VE{n t:ByteArray}{p q c no no':Int}{a b:Bool}{s:aU}{k:Int}{nm:ByteArray}{sn sd:Int}{sl:Value}(hi:i64 p/\i64 q/\i64 c)(hn:i64 no)(hs:Rep.rd w M (fH (dP r) (dQ r) s) [.int .i64 k,.string nm,.int .i64 sn,.int .i64 sd,sl])(hno:(if t.toList= []then-1 else dO (jF r) t)=no):
 Rep.rd w M (vO r (n,p,q,c,a,b,s,t,no')) [n,p,q,c,a,b,k,nm,sn,sd,sl,t,no]:=by
 unfold vO;rw[hno];exact⟨[_],_,rfl,rfl, [_],_,rfl,⟨rfl,hi.1⟩, [_],_,rfl,⟨rfl,hi.2.1⟩, [_],_,rfl,⟨rfl,hi.2.2⟩, [_],_,rfl,rfl, [_],_,rfl,rfl, [_,_,_,_,_], [_,_],rfl,hs, [_], [_],rfl,rfl,⟨rfl,hn⟩⟩
def KeR(V6 V7:World)(tb:Nat)(MM:List Nat)(nm:ByteArray)(r:aS)(ks:List bK)(ok:Bool)(m:Nat)(v9 j:Value)(wr:World):Prop:=∃(kk:Nat) (ok2:Bool) (v2:Value),kk<=m/\v9=ok2/\j=kk/\Hid ((ok&&(ks.take kk).all (I_ (dP r) (dQ r) (jF r)))=ok2)/\Hid (Qe V6 V7 wr tb MM nm v2 ((ks.take kk).map (iW (dP r) (dQ r) (jF r))))
def TiR(w V3:World)(r:aS)(R:List Value)(lb xb:Nat)(t0 t1 t2 t3:dK)(M:List Nat)(s1 s2 s3 s6 s7:dK)(q:Nat)(v9 i:Value)(wr:World):Prop:=∃(k:Nat) (ok:Bool) (v:Value),k<=q/\v9=ok/\i=k/\Hid ((r.ties.take k).all (okT r)=ok)/\Hid (GN dA 142 w V3 wr r R lb xb t0 t1 t2 t3 M [r.name,.slice s1.A s1.n s1.c,.slice s2.A s2.n s2.c,.slice s3.A s3.n s3.c,v,.slice none 0 0,.slice s6.A s6.n s6.c,.slice s7.A s7.n s7.c,r.best] v ((r.ties.take k).map (yV r)))
def RoR(w V3:World)(r:aS)(R:List Value)(lb xb:Nat)(t0 t1 t2 t3:dK)(M:List Nat)(s1 s2 s3 s6 s7:dK)(ok:Bool)(vt:Value)(q:Nat)(v9 i:Value)(wr:World):Prop:=∃(k:Nat) (ok2:Bool) (v:Value),k<=q/\v9=ok2/\i=k/\Hid ((ok&&(r.rounds.take k).all (Va r))=ok2)/\Hid (GN aJ 68 w V3 wr r R lb xb t0 t1 t2 t3 M [r.name,.slice s1.A s1.n s1.c,.slice s2.A s2.n s2.c,.slice s3.A s3.n s3.c,vt,v,.slice s6.A s6.n s6.c,.slice s7.A s7.n s7.c,r.best] v ((r.rounds.take k).map (vO r)))
attribute [irreducible] KeR TiR RoR
namespace U
open Go.RowKit Go.Shelf
attribute [local go_sem] cX
theorem Ou{s1 s2 s3 s4 s5 s6 s7:dK}(hr:dG w M r s1 s2 s3 s4 s5 s6 s7)(hf:∀y,y∈r.rounds->nodes (au y)<=1000)(hlen:s1.n<=1000/\s2.n<=1000/\s3.n<=1000/\s4.n<=1000/\s5.n<=1000)(hs:fD r=true)(hkk:∀t,t∈r.ties->t.2.length<=1000)(hM:b_ M w):
 Calls prog 101 #[.agg (aV r s1 s2 s3 s4 s5 s6 s7).toArray] w fun e w'=>∃v,e=.returned (.tuple #[v,.int .i64 (jJ r)])/\Below w w w'/\(jJ r=0->∃x4 x5:dK,v=.agg (aV (Fe r) s1 s2 s3 x4 x5 s6 s7).toArray/\Sl dA w' M x4.A x4.n x4.c (Fe r).ties/\Sl aJ w' M x5.A x5.n x5.c (Fe r).rounds)/\(¬jJ r=0->v=.agg nR.toArray):=by
 refine wid ?_;obtain⟨A4,I,c4⟩:=s4;obtain⟨A5,J,c5⟩:=s5;have bJ:=Hd hr;have bH:=Hd hM;have bc:=Hd (show jJ r=if uZ r 4=false then 140 else if Fb r 4=true then 141 else if Yc r=false then 140 else 0 by unfold jJ;rw[hs,if_neg po]);obtain⟨W1,bk,F1⟩:=dR (((Fr.nil w).a w (aV r s1 s2 s3 ⟨A4,I,c4⟩ ⟨A5,J,c5⟩ s6 s7) 28).a (w+1) nR 28);have o1:=aW F1;have H:=h_ (hr.go F1.bl) hf hlen (hM.le F1.bl.size);have HS:=Hd hs;have HF:=Hd F1;have VF:=Hd (show r.ties.length=I/\r.rounds.length=J from⟨hr.ties.len,hr.rounds.len⟩);have ZW:∀i,(NY r i).length<=2000:=fun i=>by
  have n1:=hr.aT.len;have n2:=hr.bonus.len;have n3:=hr.malus.len;have n4:=hr.ties.len;have n5:=hr.rounds.len
  match i with
  |0=>show(dP r).length<=_;simp;omega
  |1=>show(UG r).length<=_;simp;omega
  |2=>show(jF r).length<=_;simp;omega
  |_+3=>show(dQ r).length<=_;simp;omega
 have XL:=Hd ZW;have cd:=Hd hkk;clear F1 hr hf hs hlen hM ZW hkk;obtain⟨fn,bW⟩:=aC (bZ r.name);have bD:=Hd bW;clear bW;refine ent func101 ntmps101 ?_
 gi_wp2_with (first
  |(have g:=bd.out;clear g;refine Cl 145 (GK r.name w4) ?_;rintro e w5 ⟨rfl,rfl⟩;rw[bD.out])
  |(have X:=Rk (H.a.go bb.out) H.c;refine Cl 144 X ?_;clear X;rintro e w3 ⟨t0,t1,t2,t3,rfl,b1,Y⟩;obtain⟨lb,cj⟩:=aC w3.heap.size;have F3:=(F2.out.go Y);have b9:=Hd (show w.heap.size+1<lb by have:=F3.mJ 1;omega);obtain⟨w4,cz,hb4,F4⟩:=fP (w:=w3) (F3.a lb (Af t0 t1 t2 t3) 196 cj.symm);have bd:=Hd (show XK w w4 r (aV r s1 s2 s3 ⟨A4,I,c4⟩ ⟨A5,J,c5⟩ s6 s7) lb t0 t1 t2 t3 from⟨F4,b1.go hb4⟩);have cp:=Hd (bb.out.trans ((Y.trans (hb4.mono Y.size)).mono bb.out.size));have o4:=aW bd.out.fr;clear o2 b1 Y hb4 F3 F4)
  |(have X:=GL H.a;refine Cl 143 X ?_;clear X;rintro e w2 ⟨rfl,hb⟩;rw[HS.out];have F2:=Hd (HF.out.go hb);have bb:=Hd hb;have o2:=aW F2.out;clear o1 hb)
  |fail)
 gi_loopw[5,6,7] (fun v5 v6 i wr=>∃(k:Nat) (p q:Bool),k<=4/\v5=q/\v6=p/\i=k/\Hid (uZ r k=p/\Fb r k=q)/\Hid (XK w wr r (aV r s1 s2 s3 ⟨A4,I,c4⟩ ⟨A5,J,c5⟩ s6 s7) lb t0 t1 t2 t3)) (fun _ _ i _=>4-(intOf i).toNat);case atStart=>exact⟨0,fn,false,pj,rfl,rfl,rfl,Hd ⟨bD.out,rfl⟩,bd⟩
 case round=>
  obtain⟨i,p,q,hi,rfl,rfl,rfl,ac,hI⟩:=hrel;by_cases bn:i<4
  ·have o5:=aW hI.out.fr;have c1:=hI.out.fr.aQ 2 i rfl (U_ t0 t1 t2 t3 i bn);have a7:=hI.out.nm.nth i;obtain⟨T,hT⟩:=aC (tS t0 t1 t2 t3 i);rw[hT]at c1 a7;obtain⟨A,n,c⟩:=T;have bU:=a7.len;have cy:=a7.small;have HN:=Hd2 hT bU;obtain⟨nl,bs⟩:=aC (NY r i);have bI:=Hd bs;have b0:=XL.out i;have cq:=Hd b0;have b8:=Hd (show ∀V,XK w V r (aV r s1 s2 s3 ⟨A4,I,c4⟩ ⟨A5,J,c5⟩ s6 s7) lb t0 t1 t2 t3->V.cell? ⟨lb,i,none⟩=some (.slice A n c)/\Sl ByteArray V [] A n c nl from by
    intro V h;have a:=h.fr.aQ 2 i rfl (U_ t0 t1 t2 t3 i bn);have b:=h.nm.nth i;rw[hT]at a b;rw[bs]at b;exact⟨a,b⟩)
   clear a7 hT bU bs b0;gi_wp2;clear o5 c1;gi_loopw[5,6,8] (fun v5 v6 j wr=>∃(k:Nat) (p q:Bool),k<=n/\v5=q/\v6=p/\j=k/\Hid ((uZ r i&&(nl.take k).all bZ)=p/\(Fb r i||vN nl k)=q)/\Hid (XK w wr r (aV r s1 s2 s3 ⟨A4,I,c4⟩ ⟨A5,J,c5⟩ s6 s7) lb t0 t1 t2 t3)) (fun _ _ j _=>n-(intOf j).toNat);case atStart=>exact⟨0,p,q,cf _,rfl,rfl,rfl,Hd ⟨by rw[ac.a];simp,by rw[ac.u];simp[vN]⟩,hI⟩
   case round=>
    obtain⟨k,p2,q2,hk,rfl,rfl,rfl,Jk,ax⟩:=hrel;obtain⟨Q,aB⟩:=b8.out _ ax.out;by_cases aj:k<n
    ·have b3:=aB.len;obtain⟨s,bt⟩:=dW nl k (by rw[b3];exact aj);obtain⟨b,o,rfl,h0⟩:=aB.text bt;obtain⟨f,hf⟩:=aC (bZ s);have aE:=Hd hf;have aF:=Hd (ru s (aB.go pE.drew));have ZX:=Hd bt;have u1:=ah Q;have u2:=ah h0;clear hf bt aB b3;cases p2<;>cases q2
     all_goals
      gi_wp2_with (first
       |(refine Cl 145 (GK s _) ?_;rintro e w5 ⟨rfl,rfl⟩;rw[aE.out])
       |(refine⟨bO,?_⟩))
      refine ak [] [0,1,2,3,4,5,6,7,8,9,10,12,11,13,14,15] pk pk ?_;refine eH ?_
     ·exact Az
     ·exact EI
     ·exact Az
     exact EI
    ·obtain rfl:n=k:=pj;have O:=Hd (show uZ r (i+1)=p2/\Fb r (i+1)=q2 by
      have h1:=Jk.out;have h2:=aB.len;rw[bR (by rw[h2];exact bj _)]at h1;refine⟨?_,?_⟩;·show(uZ r i&&(NY r i).all bZ)=p2;rw[bI.out];exact h1.1
      show(Fb r i||vN (NY r i) (NY r i).length)=q2;rw[bI.out,h2];exact h1.2)
     clear hk aj aB;gi_wp2;exact⟨⟨i+1,_,_,pj,rfl,rfl,by go_num,O,ax⟩,by simp[intOf];omega⟩
  ·have cx:¬((i:Int)<4):=pj;have ac:=Hd (show uZ r 4=p/\Fb r 4=q by have h:=ac.out;rwa [show i=4 by omega]at h);have o5:=aW hI.out.fr;clear hi bn;cases p;·have O:=Hd (show jJ r=140 by rw[bc.out,ac.a];rfl);gi_wp2;clear bk;refine(fun(h:∀U,fM wr (w.heap.size+1) 0 nR=U->bodyPost _ _ _ _ _ U)=>h _ rfl) ?_;intro U hU;have kb:=iO (w:=wr) (b:=w+1) (vs:=nR) (us:=nR) (fun i u hu=>hI.out.fr.at_ (w.heap.size+1) _ po i u hu) rfl hU;have z0:=(kb.1 0 _ rfl).1;have z1:=(kb.1 1 _ rfl).1;have z2:=(kb.1 2 _ rfl).1;have z3:=(kb.1 3 _ rfl).1;have z4:=(kb.1 4 _ rfl).1;have z5:=(kb.1 5 _ rfl).1;have z6:=(kb.1 6 _ rfl).1;have z7:=(kb.1 7 _ rfl).1;have z8:=(kb.1 8 _ rfl).1;exact⟨rfl,.tuple #[.agg nR.toArray,.int .i64 140],by simp[results,go_sem,z0,z1,z2,z3,z4,z5,z6,z7,z8],_,by rw[O.out],hI.out.fr.bl.trans (kb.2.bl.mono pj),fun h=>(by rw[O.out]at h;cases h),fun _=>rfl⟩
   cases q;rotate_left;·have O:=Hd (show jJ r=141 by rw[bc.out,ac.a,ac.u];rfl);gi_wp2;clear bk;refine(fun(h:∀U,fM wr (w.heap.size+1) 0 nR=U->bodyPost _ _ _ _ _ U)=>h _ rfl) ?_;intro U hU;have kb:=iO (w:=wr) (b:=w+1) (vs:=nR) (us:=nR) (fun i u hu=>hI.out.fr.at_ (w.heap.size+1) _ po i u hu) rfl hU;have z0:=(kb.1 0 _ rfl).1;have z1:=(kb.1 1 _ rfl).1;have z2:=(kb.1 2 _ rfl).1;have z3:=(kb.1 3 _ rfl).1;have z4:=(kb.1 4 _ rfl).1;have z5:=(kb.1 5 _ rfl).1;have z6:=(kb.1 6 _ rfl).1;have z7:=(kb.1 7 _ rfl).1;have z8:=(kb.1 8 _ rfl).1;exact⟨rfl,.tuple #[.agg nR.toArray,.int .i64 141],by simp[results,go_sem,z0,z1,z2,z3,z4,z5,z6,z7,z8],_,by rw[O.out],hI.out.fr.bl.trans (kb.2.bl.mono pj),fun h=>(by rw[O.out]at h;cases h),fun _=>rfl⟩
   have O:=Hd (show jJ r=if Yc r=false then 140 else 0 by rw[bc.out,ac.a,ac.u];rfl);obtain⟨V0,rfl⟩:∃V,V=wr:=⟨_,rfl⟩;obtain⟨xb,bw⟩:=aC V0.heap.size;have bp:=hI.out.fr.mJ 2;rw[bw]at bp;obtain⟨V3,JM,Y,F6⟩:=fP (w:=V0) (hI.out.fr.a xb [r.name,.slice s1.A s1.n s1.c,.slice s2.A s2.n s2.c,.slice s3.A s3.n s3.c,.slice none 0 0,.slice none 0 0,.slice s6.A s6.n s6.c,.slice s7.A s7.n s7.c,r.best] 28 bw.symm);have kx:=du Y [xb];have R0:=Hd (GN.start (α:=dA) (e:=142) (C:= [r.name,.slice s1.A s1.n s1.c,.slice s2.A s2.n s2.c,.slice s3.A s3.n s3.c,.slice none 0 0,.slice none 0 0,.slice s6.A s6.n s6.c,.slice s7.A s7.n s7.c,r.best]) F6 (hI.out.nm.ah0 (pf bw) kx) bp b9.out bH.out);have o6:=aW R0.out.fr;clear F6 bp kx ac Y;gi_wp2;clear o5 o6;gi_loopw[9,11] (fun v9 i wr=>TiR w V3 r (aV r s1 s2 s3 ⟨A4,I,c4⟩ ⟨A5,J,c5⟩ s6 s7) lb xb t0 t1 t2 t3 M s1 s2 s3 s6 s7 I v9 i wr) (fun _ i _=>I-(intOf i).toNat);case atStart=>unfold TiR;exact⟨0,true,_,cf _,rfl,rfl,Hd po,R0⟩
   case round=>
    unfold TiR at hrel;obtain⟨k,ok,v,hk,rfl,rfl,hok,hR⟩:=hrel;obtain⟨G,rfl⟩:∃V,V=wr:=⟨_,rfl⟩;have o7:=aW hR.out.fr;by_cases aj:k<I
    ·obtain⟨t,a8⟩:=dW r.ties k (by rw[VF.a];exact aj);obtain⟨b,o,B,m',d',rfl,⟨e0,e1⟩,hks⟩:=((show Sl dA w M A4 I c4 r.ties from bJ.out.ties).keep (du hR.out.fr.bl _)).n_ a8;have bo:=hks.len;have VG:=cd.out t (bh a8);obtain⟨a_,bf⟩:=aC t.1;obtain⟨ks,bg⟩:=aC t.2;rw[bf]at e0;rw[bg]at hks bo VG;have HT:=oK a8 bf bg hks bo;have EX:=Hd VG;obtain⟨tb,cn⟩:=aC G.heap.size;obtain⟨V7,ch,ag,G7⟩:=fP (w:=G) ((Fr.nil G).a tb [.string a_,.slice none 0 0] 142 cn.symm);have K0:=Hd (Qe.start (M:=bP v++(xb::(w.heap.size+1)::M)) G7 (fun q z=>bX (hR.out.bel q z) ag.size));have bL:=Hd2 e0 e1;have pn:=aN (G7.aQ 0 1);have o8:=aW G7;clear a8 bf bg hks bo VG G7 ag;gi_wp2;clear pn o7 o8 e0 e1;gi_loopw[9,13] (fun v9 j wr=>KeR G V7 tb (bP v++(xb::(w.heap.size+1)::M)) a_ r ks ok m' v9 j wr) (fun _ j _=>m'-(intOf j).toNat);case atStart=>unfold KeR;exact⟨0,ok,_,cf _,rfl,rfl,Hd po,K0⟩
     case round=>
      unfold KeR at hrel;obtain⟨kk,am,v2,hkk,rfl,rfl,al,E⟩:=hrel;have bi:=hR.out.go E.out.fr.bl;have o9:=aW bi.fr;have aY:=aW E.out.fr;have f0:=(du E.out.fr.bl []).cell po bL.a;have f1:=(du E.out.fr.bl []).cell po bL.u;have ap:=Hd bi;clear bi;by_cases cl:kk<m'
      ·obtain⟨y,hy⟩:=dW ks kk (by rw[HT.x];exact cl);obtain⟨b2,o2,cv,rfl,bV,a6⟩:=(HT.d.keep (du E.out.fr.bl _)).get hy;obtain⟨rfl,iy⟩:=rd_key bV;have p0:wr.cell? ⟨b2,o2+kk*3,none⟩=some (.int .i64 y.1):=a6.2 0 _ rfl;have p1:wr.cell? ⟨b2,o2+kk*3+1,none⟩=some (.string y.2.1):=a6.2 1 _ rfl;have p2:wr.cell? ⟨b2,o2+kk*3+2,none⟩=some (.int .i64 y.2.2):=a6.2 2 _ rfl;obtain⟨wd,a9⟩:=aC wr.drew;have bm:Below wr wr wd:=by rw[<-a9];exact pE.drew
       obtain⟨sb,aa⟩:=aC wr.heap.size;have yU:=Hd (show wd.heap.size=sb by rw[<-a9];exact aa);have q0:=bQ aa (ap.out.fr.aQ 2 0);have q1:=bQ aa (ap.out.fr.aQ 2 1);have q2:=bQ aa (ap.out.fr.aQ 2 2);have q3:=bQ aa (ap.out.fr.aQ 2 3);have b6:=bQ aa (ap.out.fr.aQ 0 4);have b7:=bQ aa f1;have q6:=bQ aa p0;have q7:=bQ aa p1;have q8:=bQ aa p2;have HC:=Hd (show ∀V,Below wd wd V->_ from fun V hb=>U4 (k:=y) (w:=V) ((ap.out.nmr.go bm).go hb));have a3:=Hd (E.out.go bm);have yT:=Hd a9;have HY:=Hd2 hy iy;obtain⟨y3,bx⟩:=aC (iW (dP r) (dQ r) (jF r) y);obtain⟨q,z⟩:=aC (I_ (dP r) (dQ r) (jF r) y);have aw:=Hd2 bx z;rw[bx,z]at HC;obtain⟨k1,k2,k3⟩:=y3;clear hy iy a9 bV a6 p0 p1 p2 bm aa bx z;gi_wp2;refine aP sb 16 pk pk ?_;refine ay 0 ?_;refine ay 1 ?_;refine ay 2 ?_;refine ay 3 ?_;refine ay 4 ?_;refine ay 5 ?_;refine ay 6 ?_;refine ay 7 ?_;refine ay 8 ?_;refine ay 9 ?_;rw[yT.out];refine oQ 10 [14] pk (dN pt rfl ?_ (fun K E=>?_) (dN pt rfl ?_ (fun K E=>?_) gU));·exact wy
       rotate_left;·exact wy
       rotate_left
       ·gi_wp2;refine Cl 147 (HC.out wd pE) ?_;rintro e w2 ⟨rfl,aq⟩;refine E _ _ ⟨?_,?_⟩;clear E K;·exact bq aq _
        refine lit ?_;obtain⟨Z,ab⟩:=aC w2.heap.size;obtain⟨V3,ce,Y,G3⟩:=fP (w:=w2) (((Fr.nil wd).go aq).a Z [.int .i64 0,.string ⟨#[]⟩,.int .i64 0] 113 ab.symm);clear aq;refine ay 11 ?_;refine ay 12 ?_;refine ay 13 ?_;refine eU 14 fun K E=>?_;gi_wp2;refine⟨bq Y _,?_⟩;refine lit ?_;(try rw[ab]);clear Y ab ce;obtain⟨V5,oM⟩:=aC (fM V3 Z 0 [k1,k2,k3]);obtain⟨F5,jD⟩:=G3.abt (us:= [k1,k2,k3]) rfl oM;have ku:=Keeps.sU (s:=sb) jD.k (by rw[<-yU.out];exact G3.gen 0);have JQ:((V3.setCell ⟨Z,0,none⟩ k1).setCell ⟨Z,1,none⟩ k2).setCell ⟨Z,2,none⟩ k3=V5:=oM;have aZ:=aW G3;clear o9 aY G3 oM jD q0 q1 q2 q3 b6 b7 q6 q7 q8 f0 f1;refine eU 15 fun K E=>?_;gi_wp2;refine⟨ku,?_⟩;clear ku;refine lit ?_;refine iq 1 ?_;refine jW fun K E K' F=>?_;gi_wp2;refine et _ ?_;simp only[cu];obtain⟨v',wA,r1,S,K1⟩:=(a3.out.go F5.bl).step (x:=(k1,k2,k3)) (by exact JL) (by have:=EX.out;simp;omega);rw[<-aw.a,qI _ HY.a]at K1;obtain⟨A9,c9,W⟩:=K1.own.shape;obtain⟨n9,uF⟩:=aC ((ks.take (kk+1)).map (iW (dP r) (dQ r) (jF r))).length;rw[uF]at W;subst W;have N:=Hd2 r1 K1;have bA:=aW (a3.out.go F5.bl).fr;have bB:=aW F5;have ba:=aW S;clear aZ r1 K1 F5 S JQ uF;have cm:m'<=1000:=by have:=EX.out;have:=HT.x;omega
        cases am<;>cases q
        all_goals
         gi_wp2_with (first
          |(gi_at_builtin;refine c_ rfl fun K F=>?_;have X:=N.a;refine aI _ _ _ rfl rfl rfl X (F _ _ ?_);clear F K X)
          |fail)
         exact⟨by exact QK,by simp[intOf];omega⟩
       obtain⟨Z,ab⟩:=aC wd.heap.size;obtain⟨w2,cg,Y,G2⟩:=fP (w:=wd) ((Fr.nil wd).a Z [.int .i64 0,.string ⟨#[]⟩,.int .i64 0] 113 ab.symm);have bC:=Hd (HC.out w2 Y);have bF:=Hd G2;clear G2;gi_wp2;refine⟨bq Y _,?_⟩;refine lit ?_;(try rw[ab]);clear Y ab cg;refine eU 10 fun K E=>?_;gi_wp2;refine Cl 147 bC.out ?_;rintro e V3 ⟨rfl,aq⟩;have G3:=bF.out.go aq;refine E _ _ ⟨?_,?_⟩;clear E K;·exact bq aq _
       refine lit ?_;clear aq bC bF;refine ay 11 ?_;refine ay 12 ?_;refine ay 13 ?_;obtain⟨V5,oM⟩:=aC (fM V3 Z 0 [k1,k2,k3]);obtain⟨F5,jD⟩:=G3.abt (us:= [k1,k2,k3]) rfl oM;have ku:=Keeps.sU (s:=sb) jD.k (by rw[<-yU.out];exact G3.gen 0);have JQ:((V3.setCell ⟨Z,0,none⟩ k1).setCell ⟨Z,1,none⟩ k2).setCell ⟨Z,2,none⟩ k3=V5:=oM;have aZ:=aW G3;clear o9 aY G3 oM jD q0 q1 q2 q3 b6 b7 q6 q7 q8 f0 f1;refine eU 15 fun K E=>?_;gi_wp2;refine⟨ku,?_⟩;clear ku;refine lit ?_;refine iq 1 ?_;refine jW fun K E K' F=>?_;gi_wp2;refine et _ ?_;simp only[cu];obtain⟨v',wA,r1,S,K1⟩:=(a3.out.go F5.bl).step (x:=(k1,k2,k3)) (by exact JL) (by have:=EX.out;simp;omega);rw[<-aw.a,qI _ HY.a]at K1;obtain⟨A9,c9,W⟩:=K1.own.shape;obtain⟨n9,uF⟩:=aC ((ks.take (kk+1)).map (iW (dP r) (dQ r) (jF r))).length;rw[uF]at W;subst W;have N:=Hd2 r1 K1;have bA:=aW (a3.out.go F5.bl).fr;have bB:=aW F5;have ba:=aW S;clear aZ r1 K1 F5 S JQ uF;have cm:m'<=1000:=by have:=EX.out;have:=HT.x;omega
       cases am<;>cases q
       all_goals
        gi_wp2_with (first
         |(gi_at_builtin;refine c_ rfl fun K F=>?_;have X:=N.a;refine aI _ _ _ rfl rfl rfl X (F _ _ ?_);clear F K X)
         |fail)
        exact⟨by exact QK,by simp[intOf];omega⟩
      ·obtain rfl:m'=kk:=pj;have KX:=E.out;rw[bR (by rw[HT.x];exact bj _)]at KX;have ca:=Hd (show(ok&&okT r t)=am by
        have:=al.out;rw[bR (by rw[HT.x];exact bj _)]at this;rw[<-this,okT,HT.c])
       have az:(ks.map (iW (dP r) (dQ r) (jF r))).length=m':=by rw[ck,HT.x]
       obtain⟨A8,c8,rfl,af⟩:=KX.sl (by rw[ck];exact cF EX.out pj);rw[az]at af;have b5:yV r t=(a_,ks.map (iW (dP r) (dQ r) (jF r))):=by rw[yV,HT.b,HT.c]
       obtain⟨v',wA,r1,S,P⟩:=ap.out.step underlying24 Gu (x:=yV r t) (cs:= [a_,.slice A8 m' c8]) (by rw[b5];exact agA (af.less (fun q z=>bE _ z))) (j:=4) rfl (by have:=VF.a;have:=H.c;simp;omega);rw[qI _ HT.a]at P;obtain⟨A9,c9,W⟩:=P.own.shape;obtain⟨n9,uF⟩:=aC ((r.ties.take (k+1)).map (yV r)).length;rw[uF]at W;subst W;have N:=Hd2 r1 P;have ba:=aW S;rw[az]at aY;clear r1 P S uF KX af b5 hk;have yK:I<=1000:=H.out.2.2.1.2.2.2.1
       gi_wp2_with (first
        |(gi_at_builtin;refine c_ rfl fun K F=>?_;have X:=N.a;refine aI _ _ _ rfl rfl rfl X (F _ _ ?_);clear F K X)
        |fail)
       exact⟨by unfold TiR;exact⟨k+1,_,_,pj,rfl,by go_num,Hd (by rw[dZ _ HT.a,hok.out];exact ca.out),N.u⟩,by simp[intOf];omega⟩
    ·obtain rfl:I=k:=pj;have Si:=hR.out;have az:(r.ties.map (yV r)).length=I:=by rw[ck,VF.a]
     rw[bR (by rw[VF.a];exact bj _)]at Si;obtain⟨Aq,ct,rfl,bv⟩:=Si.sl (by rw[az];have:=H.c;omega);have ai:=Si.fr;rw[az]at bv ai;have Ko:=Hd (show r.ties.all (okT r)=ok by have:=hok.out;rwa [bR (by rw[VF.a];exact bj _)]at this);have P:=Hd (GN.start (α:=aJ) (e:=68) (M:=M) (C:= [r.name,.slice s1.A s1.n s1.c,.slice s2.A s2.n s2.c,.slice s3.A s3.n s3.c,.slice Aq I ct,.slice none 0 0,.slice s6.A s6.n s6.c,.slice s7.A s7.n s7.c,r.best]) ai Si.nmr Si.lx Si.wl bH.out);have cb:=Hd bv;have hcn:(dP r).length<=100000:=cF (XL.out 0) pj;have hrn:(dQ r).length<=100000:=cF (XL.out 3) pj;have a1:=Hd2 hcn hrn;have cc:=Hd (show(jF r).length<=2000 from XL.out 2);obtain⟨VR,rfl⟩:∃V,V=G:=⟨_,rfl⟩;rw[az]at o7;clear Si bv ai hcn hrn hk aj hok hR;gi_wp2;clear o7;gi_loopw[9,16] (fun v9 i wr=>RoR w VR r (aV r s1 s2 s3 ⟨A4,I,c4⟩ ⟨A5,J,c5⟩ s6 s7) lb xb t0 t1 t2 t3 M s1 s2 s3 s6 s7 ok (.slice Aq I ct) J v9 i wr) (fun _ i _=>J-(intOf i).toNat);case atStart=>unfold RoR;exact⟨0,ok,_,cf _,rfl,rfl,Hd po,P⟩
     case round=>
      unfold RoR at hrel;obtain⟨k,am,v,hk,rfl,rfl,al,ae⟩:=hrel;obtain⟨G,rfl⟩:∃V,V=wr:=⟨_,rfl⟩;have av:=ae;have o7:=aW ae.out.fr;by_cases aj:k<J
      ·obtain⟨y,hy⟩:=dW r.rounds k (by rw[VF.u];exact aj);have b4:=H.b y (bh hy);obtain⟨b,o,B,m',d',rfl,⟨p0,p1,p2,p3,p4,p5⟩,⟨p6,p7,p8,p9,p10⟩,⟨p11,p12⟩,aO,hi2,hys⟩:=((show Sl aJ w M A5 J c5 r.rounds from bJ.out.rounds).keep (du ae.out.fr.bl _)).iw hy;obtain⟨yn,yp,yq,yc,wQ,zo,m,L,ar⟩:=y;simp only[au]at p0 p1 p2 p3 p4 p5 p6 p7 p8 p9 p10 p11 p12 aO hi2 hys b4;obtain⟨D,co⟩:=aC G.heap.size;obtain⟨V7,ch,ag,G7⟩:=fP (w:=G) ((Fr.nil G).a D [yn,yp,yq,yc,wQ,zo,m.kind,m.name,m.n,m.d,.slice B m' d',L,ar] 68 co.symm);have HC:=Hd (Rl r a1.a a1.u m (M:=D::(bP v++(xb::(w.heap.size+1)::M))) (M1:=M) (M2:= [xb]) (w:=V7) (hys.go ag) (ae.out.nmr.go ag) (fun q z=>by
        rcases cD.1 z with rfl|z;·exact G7.mJ 0
        exact bX (ae.out.bel q z) ag.size) pj)
       have bG:=Hd G7;have HY:=Hd hy;have a5:=Hd2 (And.intro aO.1 (And.intro aO.2.1 aO.2.2.1)) hi2;have o8:=aW G7;have cC:=aW (ae.out.go ag).fr;have hcn:=a1.a;have hrn:=a1.u;have yK:J<=1000:=H.out.2.2.1.2.2.2.2;obtain⟨n3,br⟩:=aC (fH (dP r) (dQ r) m).n;obtain⟨q,z⟩:=aC (okR (dP r) (dQ r) m);rw[br,z]at HC;have a4:=Hd2 br z;clear b4 hy aO hi2 hys G7 ag ae br z;by_cases aD:L.toList= []
       ·have he:L.toList.isEmpty=true:=by simpa using aD
        have aG:=Hd aD;clear aD;cases am<;>cases q
        all_goals
         gi_wp2_with (first
          |(have g:=N;clear g;gi_at_builtin;refine c_ rfl fun K F=>?_;have X:=N.a;refine aI _ _ _ rfl rfl rfl X (F _ _ ?_);clear F K X)
          |(refine Cl 148 HC.out ?_;rintro e V8 ⟨R,m2,Q,rfl,af,aM⟩;obtain⟨Z,ab⟩:=aC V8.heap.size;obtain⟨V9,ci,Ns,G9⟩:=fP (w:=V8) ((Fr.nil V8).a Z [.int .i64 m.kind,.string m.name,.int .i64 n3,.int .i64 m.d,.slice R m2 Q] 66 ab.symm);have ao:Fr G V9 ([]++ [(D, [.string yn,.int .i64 yp,.int .i64 yq,.int .i64 yc,.bool wQ,.bool zo,.int .i64 m.kind,.string m.name,.int .i64 m.n,.int .i64 m.d,.slice B m' d',.string L,.int .i64 ar])]):=(bG.out.go aM).go Ns;obtain⟨aL,VH⟩:=aC (((((V9.setCell ⟨D,6,none⟩ m.kind).setCell ⟨D,7,none⟩ m.name).setCell ⟨D,8,none⟩ n3).setCell ⟨D,9,none⟩ m.d).setCell ⟨D,10,none⟩ (.slice R m2 Q));have an:Fr G aL ([]++ [(D, [.string yn,.int .i64 yp,.int .i64 yq,.int .i64 yc,.bool wQ,.bool zo,.int .i64 m.kind,.string m.name,.int .i64 n3,.int .i64 m.d,.slice R m2 Q,.string L,.int .i64 ar])]):=by
             rw[<-VH];exact((((ao.qY po (j:=6) rfl _).qY po (j:=7) rfl _).qY po (j:=8) rfl _).qY po (j:=9) rfl _).qY po (j:=10) rfl _
            obtain⟨Yr,VI⟩:=aC (aL.setCell ⟨D,12,none⟩ (.int .i64 (-1)));have ad:Fr G Yr ([]++ [(D, [.string yn,.int .i64 yp,.int .i64 yq,.int .i64 yc,.bool wQ,.bool zo,.int .i64 m.kind,.string m.name,.int .i64 n3,.int .i64 m.d,.slice R m2 Q,.string L,.int .i64 (-1)])]):=by rw[<-VI];exact an.qY po (j:=12) rfl _
            have aR:Sl aU Yr (D::(bP v++(xb::(w.heap.size+1)::M))) R m2 Q (acH (dP r) (dQ r) m.l):=by
             have k:Go.Proofs.YtfdmnogfflcllaaGreatDoor.Keeps [D] V9 Yr:=by rw[<-VI,<-VH];exact((((((fl _ _).setCell (.inl po) _).setCell (.inl po) _).setCell (.inl po) _).setCell (.inl po) _).setCell (.inl po) _).setCell (.inl po) _
             exact(af.go Ns).keep (k.mono (fun q z=>by rw[bz]at z;subst z;exact cw))
            have o9:=aW G9;have aY:=aW ao;have aZ:=aW an;have bA:=aW ad;have bB:=aW (av.out.go ad.bl).fr;have Sj:=Hd2 ad aR;clear af aM Ns G9 ao an ad aR;obtain⟨v',wA,r1,S,P⟩:=(av.out.go Sj.a.bl).step underlying25 sN (x:=vO r (yn,yp,yq,yc,wQ,zo,m,L,ar)) (cs:= [yn,yp,yq,yc,wQ,zo,m.kind,m.name,n3,m.d,.slice R m2 Q,L,.int .i64 (-1)]) (by have h:=sV a5.u hcn hrn (Sj.u.less (fun q z=>bE _ z));rw[a4.a]at h;exact VE a5.a (show i64 (-1) by unfold i64;omega) h (if_pos aG.out)) (j:=5) rfl (by have:=VF.u;have:=H.c;simp;omega);rw[qI _ HY.out]at P;obtain⟨A9,c9,W⟩:=P.own.shape;obtain⟨n9,uF⟩:=aC ((r.rounds.take (k+1)).map (vO r)).length;rw[uF]at W;subst W;have N:=Hd2 r1 P;have ba:=aW S;clear r1 P S uF)
          |fail)
         exact⟨by unfold RoR;exact⟨k+1,_,_,pj,rfl,by go_num,Hd (by rw[dZ _ HY.out,<-iv,al.out];simp[Va,a4.u,aG.out]),N.u⟩,by simp[intOf];omega⟩
       have he:L.toList.isEmpty=false:=by simpa using aD
       have aG:=Hd aD;clear aD;obtain⟨aX,bY⟩:=aC (dO (jF r) L);have a2:=Hd bY;clear bY;cases am<;>cases q
       all_goals
        gi_wp2_with (first
         |(have g:=N;clear g;gi_at_builtin;refine c_ rfl fun K F=>?_;have X:=N.a;refine aI _ _ _ rfl rfl rfl X (F _ _ ?_);clear F K X)
         |(have g:=aF.out;clear g;refine Cl 146 aF.out ?_;rintro e V ⟨⟨i6,rfl,ZY⟩,rfl⟩;obtain rfl:i6=aX:=(lV ZY).trans a2.out;clear ZY)
         |(refine Cl 148 HC.out ?_;rintro e V8 ⟨R,m2,Q,rfl,af,aM⟩;obtain⟨Z,ab⟩:=aC V8.heap.size;obtain⟨V9,ci,Ns,G9⟩:=fP (w:=V8) ((Fr.nil V8).a Z [.int .i64 m.kind,.string m.name,.int .i64 n3,.int .i64 m.d,.slice R m2 Q] 66 ab.symm);have ao:Fr G V9 ([]++ [(D, [.string yn,.int .i64 yp,.int .i64 yq,.int .i64 yc,.bool wQ,.bool zo,.int .i64 m.kind,.string m.name,.int .i64 m.n,.int .i64 m.d,.slice B m' d',.string L,.int .i64 ar])]):=(bG.out.go aM).go Ns;obtain⟨aL,VH⟩:=aC (((((V9.setCell ⟨D,6,none⟩ m.kind).setCell ⟨D,7,none⟩ m.name).setCell ⟨D,8,none⟩ n3).setCell ⟨D,9,none⟩ m.d).setCell ⟨D,10,none⟩ (.slice R m2 Q));have an:Fr G aL ([]++ [(D, [.string yn,.int .i64 yp,.int .i64 yq,.int .i64 yc,.bool wQ,.bool zo,.int .i64 m.kind,.string m.name,.int .i64 n3,.int .i64 m.d,.slice R m2 Q,.string L,.int .i64 ar])]):=by
            rw[<-VH];exact((((ao.qY po (j:=6) rfl _).qY po (j:=7) rfl _).qY po (j:=8) rfl _).qY po (j:=9) rfl _).qY po (j:=10) rfl _
           obtain⟨Yr,VI⟩:=aC (aL.setCell ⟨D,12,none⟩ (.int .i64 (-1)));have ad:Fr G Yr ([]++ [(D, [.string yn,.int .i64 yp,.int .i64 yq,.int .i64 yc,.bool wQ,.bool zo,.int .i64 m.kind,.string m.name,.int .i64 n3,.int .i64 m.d,.slice R m2 Q,.string L,.int .i64 (-1)])]):=by rw[<-VI];exact an.qY po (j:=12) rfl _
           have aR:Sl aU Yr (D::(bP v++(xb::(w.heap.size+1)::M))) R m2 Q (acH (dP r) (dQ r) m.l):=by
            have k:Go.Proofs.YtfdmnogfflcllaaGreatDoor.Keeps [D] V9 Yr:=by rw[<-VI,<-VH];exact((((((fl _ _).setCell (.inl po) _).setCell (.inl po) _).setCell (.inl po) _).setCell (.inl po) _).setCell (.inl po) _).setCell (.inl po) _
            exact(af.go Ns).keep (k.mono (fun q z=>by rw[bz]at z;subst z;exact cw))
           have o9:=aW G9;have aY:=aW ao;have aZ:=aW an;have bA:=aW ad;have bB:=aW (av.out.go ad.bl).fr;have Sj:=Hd2 ad aR;clear af aM Ns G9 ao an ad aR;have aF:=Hd (ru L (av.out.go Sj.a.bl).nmr.t);obtain⟨bK,bM⟩:=aC (Yr.setCell ⟨D,12,none⟩ aX);have a0:Fr G bK ([]++ [(D, [.string yn,.int .i64 yp,.int .i64 yq,.int .i64 yc,.bool wQ,.bool zo,.int .i64 m.kind,.string m.name,.int .i64 n3,.int .i64 m.d,.slice R m2 Q,.string L,.int .i64 aX])]):=by rw[<-bM];exact Sj.a.qY po (j:=12) rfl _
           have bN:=Sj.u.keep (show Go.Proofs.YtfdmnogfflcllaaGreatDoor.Keeps (D::(bP v++(xb::(w.heap.size+1)::M))) Yr bK by rw[<-bM];exact(fl _ _).setCell (.inl po) _);have bS:=Hd2 a0 bN;have cA:=aW a0;have cB:=aW (av.out.go a0.bl).fr;clear a0 bN;obtain⟨v',wA,r1,S,P⟩:=(av.out.go bS.a.bl).step underlying25 sN (x:=vO r (yn,yp,yq,yc,wQ,zo,m,L,ar)) (cs:= [yn,yp,yq,yc,wQ,zo,m.kind,m.name,n3,m.d,.slice R m2 Q,L,aX]) (by have h:=sV a5.u hcn hrn (bS.u.less (fun q z=>bE _ z));rw[a4.a]at h;exact VE a5.a (show i64 aX by have h1:=oW (jF r) L;have h2:=cc.out;have h3:=a2.out;unfold i64;omega) h ((if_neg aG.out).trans a2.out)) (j:=5) rfl (by have:=VF.u;have:=H.c;simp;omega);rw[qI _ HY.out]at P;obtain⟨A9,c9,W⟩:=P.own.shape;obtain⟨n9,uF⟩:=aC ((r.rounds.take (k+1)).map (vO r)).length;rw[uF]at W;subst W;have N:=Hd2 r1 P;have ba:=aW S;clear r1 P S uF)
         |(refine⟨bO,?_⟩))
        exact⟨by unfold RoR;exact⟨k+1,_,_,pj,rfl,by go_num,Hd (by rw[dZ _ HY.out,<-iv,al.out];simp[Va,a4.u,aG.out,a2.out]),N.u⟩,by simp[intOf];omega⟩
      ·obtain rfl:J=k:=pj;have Si:=ae.out;have bT:(r.rounds.map (vO r)).length=J:=by rw[ck,VF.u]
       rw[bR (by rw[VF.u];exact bj _)]at Si;obtain⟨Ar,cr,rfl,bu⟩:=Si.sl (by rw[bT];have:=H.c;omega);have ai:=Si.fr;rw[bT]at bu ai;have Yt:Yc r=am:=by have h:=al.out;rw[bR (by rw[VF.u];exact bj _)]at h;rw[Yc,Ko.out];exact h
       have Yu:=fB ai bu (cb.out.keep (Si.kp.mono (fun q z=>by rw[bz]at z;subst z;exact cw)));have o9:=aW ai;clear Si bu ai hk aj al ae o7;cases am;·have O:=Hd (show jJ r=140 by rw[O.out,Yt];rfl);clear Yt;gi_wp2;clear bk;refine(fun(h:∀U,fM G (w.heap.size+1) 0 nR=U->bodyPost _ _ _ _ _ U)=>h _ rfl) ?_;intro U hU;have kb:=iO (w:=G) (b:=w+1) (vs:=nR) (us:=nR) (fun i u hu=>Yu.a.at_ (w.heap.size+1) _ po i u hu) rfl hU;have z0:=(kb.1 0 _ rfl).1;have z1:=(kb.1 1 _ rfl).1;have z2:=(kb.1 2 _ rfl).1;have z3:=(kb.1 3 _ rfl).1;have z4:=(kb.1 4 _ rfl).1;have z5:=(kb.1 5 _ rfl).1;have z6:=(kb.1 6 _ rfl).1;have z7:=(kb.1 7 _ rfl).1;have z8:=(kb.1 8 _ rfl).1;exact⟨rfl,.tuple #[.agg nR.toArray,.int .i64 140],by simp[results,go_sem,z0,z1,z2,z3,z4,z5,z6,z7,z8],_,by rw[O.out],Yu.a.bl.trans (kb.2.bl.mono pj),fun h=>(by rw[O.out]at h;cases h),fun _=>rfl⟩
       have O:=Hd (show jJ r=0 by rw[O.out,Yt];rfl);clear Yt;gi_wp2;refine(fun(h:∀U,fM G (w.heap.size+1) 0 [r.name,.slice s1.A s1.n s1.c,.slice s2.A s2.n s2.c,.slice s3.A s3.n s3.c,.slice Aq I ct,.slice Ar J cr,.slice s6.A s6.n s6.c,.slice s7.A s7.n s7.c,r.best]=U->bodyPost _ _ _ _ _ U)=>h _ rfl) ?_;intro U hU;have kb:=iO (w:=G) (b:=w+1) (vs:=nR) (us:= [r.name,.slice s1.A s1.n s1.c,.slice s2.A s2.n s2.c,.slice s3.A s3.n s3.c,.slice Aq I ct,.slice Ar J cr,.slice s6.A s6.n s6.c,.slice s7.A s7.n s7.c,r.best]) (fun i u hu=>Yu.a.at_ (w.heap.size+1) _ po i u hu) rfl hU;have z0:=(kb.1 0 _ rfl).1;have z1:=(kb.1 1 _ rfl).1;have z2:=(kb.1 2 _ rfl).1;have z3:=(kb.1 3 _ rfl).1;have z4:=(kb.1 4 _ rfl).1;have z5:=(kb.1 5 _ rfl).1;have z6:=(kb.1 6 _ rfl).1;have z7:=(kb.1 7 _ rfl).1;have z8:=(kb.1 8 _ rfl).1;have kk:Go.Proofs.YtfdmnogfflcllaaGreatDoor.Keeps (xb::(w.heap.size+1)::M) G U:=kb.2.k.mono (fun q z=>by rw[bz]at z;subst z;exact bE _ cw);exact⟨rfl,.tuple #[.agg #[r.name,.slice s1.A s1.n s1.c,.slice s2.A s2.n s2.c,.slice s3.A s3.n s3.c,.slice Aq I ct,.slice Ar J cr,.slice s6.A s6.n s6.c,.slice s7.A s7.n s7.c,r.best],.int .i64 0],by simp[results,go_sem,z0,z1,z2,z3,z4,z5,z6,z7,z8],_,by rw[O.out];rfl,Yu.a.bl.trans (kb.2.bl.mono pj),fun _=>⟨⟨Aq,I,ct⟩,⟨Ar,J,cr⟩,rfl,(Yu.v.keep kk).less (fun q z=>by simp[z]),(Yu.b.keep kk).less (fun q z=>by simp[z])⟩,fun h=>absurd O.out h⟩
end U
