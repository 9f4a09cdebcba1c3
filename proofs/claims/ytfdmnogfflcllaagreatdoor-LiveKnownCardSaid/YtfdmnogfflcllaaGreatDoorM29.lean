/- Lemmas. -/
import Derived.Test.YtfdmnogfflcllaaGreatDoorM28
set_option linter.unusedVariables false
set_option linter.unusedSimpArgs false
set_option maxRecDepth 100000
set_option maxHeartbeats 20000000
namespace Go.Proofs.YtfdmnogfflcllaaGreatDoor
open Go.Proofs.Tryz Go.RowKit Go.Shelf
theorem z_{p:Prop}(h:p:=by
 obtain⟨y,g⟩:=dW l j (by rw[HL.out];exact G);obtain⟨b,o,B,X,W,rfl,⟨Z,p1,p2,p3,p4⟩,-,hys⟩:=(I.u.go f.out.bl).qQ g;have J:=Hd (I.a y (aR g) (at_:=at_) hys);have HY:=Hd g;clear g hys
 gi_wp2_with (first
  |(refine Cl 58 J.out ?_;rintro e w2 H;obtain⟨b,rfl,hb,F⟩:=H.of;have C:=Hd (f.out.go F);have HB:=Hd hb;clear hb F H;cases b)
  |fail)
 ·exact⟨⟨j+1,oE,by go_num,Hd (bY HY.out Q.out (HB.out.1 oY)),C⟩,by simp[intOf];omega⟩
 go_ret;exact mZ.yes rfl (by rw[<-D.out];intro h;have E:=HB.out.2 (fun z q=>h z (by rw[lW];exact bz _ (qF (aR HY.out) q)));cases E) C.out.bl):p:=h
theorem AX{p:Prop}(h:p:=by
 gi_wp2;refine ak [] [0,1,2,3,4,5,6,7,8,9,10,11,12,13,14,15,16,17,18] oF oF ?_;repeat(first|refine jR ?_|refine dY ?_|refine jS ?_|refine dY ?_ rfl rfl (dU rfl (by(simp[yielded];rfl))))
 refine aK ?_;refine lit ?_;gi_wp2;go_ret;exact ab.no rfl (fun h=>by have E:=(I.out h).2.2.2.1 c (aR N.a);have O:=(I.out h).1;rw[N.u,eB oE]at E;omega) U.out.bl):p:=h
theorem YC{p:Prop}(h:p:=by gi_wp2;go_ret;exact⟨by rw[HM.out];first|rfl|simp[G],HB.out⟩):p:=h
variable {M M':List Nat}{A B:Option Addr}{n c m d i:Nat}{x:dA}{r:aS}{s1 s2 s3 s4 s5 s6 s7:dK}{nm:ByteArray}{ks:List bK}{t:TypeId}{ts:List dA}{p:Prop}{w':World}
section
attribute [local go_sem] cK
theorem acR:∀{l:List Int}{a:Int},pW a l->(∀x,x∈l->0<=x/\x<=a)/\∀(i:Nat) (x y:Int),l[i]?=some x->l[i+1]?=some y->y<=x
 | [],_,_=>⟨fun x hx=>(by cases hx),fun i x y hx=>(by simp at hx)⟩
 |n::l,a,h=>by
  obtain⟨h0,h1,h2⟩:=h;obtain⟨g1,g2⟩:=acR h2;refine⟨fun x hx=>?_,fun i x y hx hy=>?_⟩
  ·rcases cB.1 hx with rfl|hx;·exact⟨h0,h1⟩
   have:=g1 x hx;omega
  match i,hx,hy with
  |0,hx,hy=>cases hx;exact(g1 y (aR (show l[0]?=some y by simpa using hy))).2
  |i+1,hx,hy=>exact g2 i x y (by simpa using hx) (by simpa using hy)
theorem tq{a lo hi:Int}(h:(decide (lo<=a)&&decide (a<=hi))=true):lo<=a/\a<=hi:=by simpa using h
theorem nC{l:List bW}{w:World}(hs:Sl bW w M A n c l):
 Calls prog 103 #[.slice A n c] w (ab (∀x,x∈l->mQ x) w):=by
 refine wid ?_;obtain⟨P,f⟩:=aC (∀x,x∈l->mQ x);rw[f];have U:=hs.small;have H:=fB hs hs.len f;clear hs f;refine ent func103 rfl ntmps103 ?_;gi_wp2;gi_loopw[3] (fun i wr=>∃k:Nat,k<=n/\i=.int .i64 k/\w=wr/\Hid (∀x,x∈l.take k->mQ x)) (fun i _=>n-(intOf i).toNat);case atStart=>exact⟨0,bO _,rfl,rfl,Hd oO⟩
 case round=>
  obtain⟨k,K,rfl,rfl,Q⟩:=hrel;by_cases z:k<n
  ·obtain⟨y,q⟩:=dW l k (by rw[H.b];exact z);obtain⟨b,o,S,rfl,s,j⟩:=H.a.get q;obtain⟨rfl,-⟩:=aaJ s;have v1:w.cell? ⟨b,o+k*3+1,none⟩=some (.int .i64 y.2.1):=j.2 1 _ rfl;have v2:w.cell? ⟨b,o+k*3+2,none⟩=some (.int .i64 y.2.2):=j.2 2 _ rfl;obtain⟨N,C⟩:=aC (decide (0<=y.2.1)&&decide (y.2.1<=1048576));obtain⟨O,D⟩:=aC (decide (1<=y.2.2)&&decide (y.2.2<=100));have Z:=fB C D q;clear s j q C D;cases N<;>cases O
   all_goals
    gi_wp2_with (first
     |(have g:=E.out;clear g;refine Cl 105 (aj _ _ _ _) ?_;rintro e R ⟨rfl,rfl⟩;rw[Z.b])
     |(refine Cl 105 (aj _ _ _ _) ?_;rintro e R ⟨rfl,rfl⟩;rw[Z.a];have E:=Hd trivial)
     |(refine⟨bq,?_⟩))
   iterate 3
    ·go_ret;exact ab.no rfl (by rw[<-H.v];intro h;have J:=h _ (aR Z.v);have T:0<=y.2.1/\y.2.1<=1048576/\1<=y.2.2/\y.2.2<=100:=J;have G:=Z.a;have I:=Z.b;simp at G I;omega) pd
   exact⟨⟨k+1,oE,by go_num,bq,Hd (bY Z.v Q.out ⟨(tq Z.a).1,(tq Z.a).2,(tq Z.b).1,(tq Z.b).2⟩)⟩,by simp[intOf];omega⟩
  ·obtain rfl:k=n:=oE;have F:=Hd (show P by rw[<-H.v];intro x hx;refine Q.out x ?_;rw[bL (by rw[H.b];exact bh _)];exact hx);clear K z;gi_wp2;go_ret;exact ab.yes rfl F.out pd
theorem nD{l:List Int}{w:World}(hs:Sl Int w M A n c l):
 Calls prog 104 #[.slice A n c] w (ab (pW 1099511627776 l) w):=by
 refine wid ?_;obtain⟨P,G⟩:=aC (pW 1099511627776 l);rw[G];have ac:=hs.small;have H:=fB hs hs.len G;clear hs G;refine ent func104 rfl ntmps104 ?_;gi_wp2;gi_loopw[3] (fun i wr=>∃k:Nat,k<=n/\i=.int .i64 k/\Hid (Below w w wr)/\Hid ((∀x,x∈l.take k->0<=x/\x<=1099511627776)/\∀(i:Nat) (x y:Int),i+1<k->l[i]?=some x->l[i+1]?=some y->y<=x)) (fun i _=>n-(intOf i).toNat);case atStart=>exact⟨0,bO _,rfl,Hd pd,Hd ⟨oO,fun i x y N=>by omega⟩⟩
 case round=>
  obtain⟨k,Y,rfl,F,Q⟩:=hrel;by_cases R:k<n
  ·obtain⟨b,o,y,rfl,E,-,-,q⟩:=(H.a.go F.out).pR R;obtain⟨q1,S⟩:=aC (decide (0<=y)&&decide (y<=1099511627776));have Z:=Hd2 S q;have D:=Hd F.out.drew;have v0:=ah E;clear S q;cases q1
   ·clear E;gi_wp2;refine ak [] [0,1,2,3,4,5,6,7,8,9,10,11,12,13,14,15,16,17,18,19,20,21] oF oF ?_;repeat(first|refine jR ?_|refine dY ?_|refine jS ?_|refine dY ?_ rfl rfl (dU rfl (by(simp[yielded];rfl))))
    refine aH fun K f=>aA rfl rfl wy fun s g=>?_;gi_wp2;refine Cl 105 (aj _ _ _ _) ?_;rintro e I ⟨rfl,rfl⟩;rw[Z.a];refine g _ _ ⟨?_,f _ _ ?_⟩;clear g s f K;·exact cF _ _
    refine lit ?_;repeat(first|refine jR ?_|refine dY ?_|refine jS ?_|refine dY ?_ rfl rfl (dU rfl (by(simp[yielded];rfl))))
    refine aK ?_;refine lit ?_;gi_wp2;go_ret;exact ab.no rfl (by rw[<-H.v];intro h;have C:=(acR h).1 _ (aR Z.u);have W:=Z.a;simp at W;omega) D.out
   rcases eh k with rfl|hp
   ·simp only[ed]at v0;clear E;gi_wp2;refine ak [] [0,1,2,3,4,5,6,7,8,9,10,11,12,13,14,15,16,17,18,19,20,21] oF oF ?_;repeat(first|refine jR ?_|refine dY ?_|refine jS ?_|refine dY ?_ rfl rfl (dU rfl (by(simp[yielded];rfl))))
    refine aH fun K f=>aA rfl rfl wy fun s g=>?_;gi_wp2;refine Cl 105 (aj _ _ _ _) ?_;rintro e I ⟨rfl,rfl⟩;rw[Z.a];refine g _ _ ⟨?_,f _ _ ?_⟩;clear g s f K;·exact cF _ _
    refine lit ?_;repeat(first|refine jR ?_|refine dY ?_|refine jS ?_|refine dY ?_ rfl rfl (dU rfl (by(simp[yielded];rfl))))
    refine aK ?_;refine lit ?_;gi_wp2;exact⟨⟨1,oE,by go_num,D,Hd ⟨bY Z.u Q.a (tq Z.a),fun i x y N=>by omega⟩⟩,by simp[intOf];omega⟩
   obtain⟨j,rfl⟩:∃j,k=j+1:=⟨k-1,oE⟩;obtain⟨b2,o2,z,V,J,-,-,T⟩:=(H.a.go F.out).pR (show j<n by omega);cases V;have v1:=ah J;have n1:IntKind.i64.wrap ((j:Nat):Int)=((j:Nat):Int):=by rw[bR];omega
   have n3:0<((j+1:Nat):Int):=oE;have HZ:=Hd T;have aa:j<n:=oE;clear E J T hp;by_cases O:z<y
   ·have X:decide (z<y)=true:=cw O;gi_wp2;refine ak [] [0,1,2,3,4,5,6,7,8,9,10,11,12,13,14,15,16,17,18,19,20,21] oF oF ?_;repeat(first|refine jR ?_|refine dY ?_|refine jS ?_|refine dY ?_ rfl rfl (dU rfl (by(simp[yielded];rfl))))
    refine aH fun K f=>aA rfl rfl wy fun s g=>?_;gi_wp2;refine Cl 105 (aj _ _ _ _) ?_;rintro e I ⟨rfl,rfl⟩;rw[Z.a];refine g _ _ ⟨?_,f _ _ ?_⟩;clear g s f K;·exact cF _ _
    refine lit ?_;repeat(first|refine jR ?_|refine dY ?_|refine jS ?_|refine dY ?_ rfl rfl (dU rfl (by(simp[yielded];rfl))))
    refine aK ?_;refine lit ?_;gi_wp2;go_ret;exact ab.no rfl (by rw[<-H.v];intro h;have C:=(acR h).2 _ _ _ HZ.out Z.u;omega) D.out
   have X:decide (z<y)=false:=cE O;gi_wp2;refine ak [] [0,1,2,3,4,5,6,7,8,9,10,11,12,13,14,15,16,17,18,19,20,21] oF oF ?_;repeat(first|refine jR ?_|refine dY ?_|refine jS ?_|refine dY ?_ rfl rfl (dU rfl (by(simp[yielded];rfl))))
   refine aH fun K f=>aA rfl rfl wy fun s g=>?_;gi_wp2;refine Cl 105 (aj _ _ _ _) ?_;rintro e I ⟨rfl,rfl⟩;rw[Z.a];refine g _ _ ⟨?_,f _ _ ?_⟩;clear g s f K;·exact cF _ _
   refine lit ?_;repeat(first|refine jR ?_|refine dY ?_|refine jS ?_|refine dY ?_ rfl rfl (dU rfl (by(simp[yielded];rfl))))
   refine aK ?_;refine lit ?_;gi_wp2;exact⟨⟨j+1+1,oE,by go_num,D,Hd ⟨bY Z.u Q.a (tq Z.a),fun i x y' N hx q=>by
    by_cases e:i=j;·subst e;rw[HZ.out]at hx;rw[Z.u]at q;cases hx;cases q;omega
    exact Q.u i x y' oE hx q⟩⟩,by simp[intOf];omega⟩
  ·obtain rfl:k=n:=oE;have U:=Hd (show P by
    rw[<-H.v];have C:=Q.a;rw[bL (by rw[H.b];exact bh _)]at C;exact Qo l _ (fun x hx=>(C x hx).1) (fun x hx=>(C x (aR hx)).2) (fun i x y hx q=>Q.u i x y (by have:=(bj.1 q).1;rw[H.b]at this;exact this) hx q))
   clear Y R;gi_wp2;go_ret;exact ab.yes rfl U.out F.out
theorem Ol{x:aU}{w:World}(hs:Sl aU w M A m c x.l):
 CB 153 #[.agg #[.int .i64 x.kind,.string x.name,.int .i64 x.n,.int .i64 x.d,.slice A m c],.agg #[.int .i64 0,.string ⟨#[]⟩,.int .i64 0,.int .i64 0,.slice none 0 0]] (.bool (fE x (.mk 0 ⟨#[]⟩ 0 0 []))) w:=
 He x (y:=.mk 0 ⟨#[]⟩ 0 0 []) (M':= []) hs Sl.nil0
theorem empty_of{s:ByteArray}(h:s.toList= []):s=⟨#[]⟩:=by
 have f:=gM List.toArray h;obtain⟨a⟩:=s;have b:a.toList= []:=by rw[<-Lib.toList_data] ;exact h
 have:a=#[]:=by simpa using b
 rw[this]
theorem Ji{yn yt:ByteArray}{yp yq yc yno:Int}{wQ zo:Bool}{ys:aU}{w:World}(hr:dG w M r s1 s2 s3 s4 s5 s6 s7)(hc:∀c,c∈r.aT->rC c)(hs:Sl aU w M B m d ys.l):
 Calls prog 108 #[.agg (aV r s1 s2 s3 s4 s5 s6 s7).toArray,.agg #[.string yn,.int .i64 yp,.int .i64 yq,.int .i64 yc,.bool wQ,.bool zo,.int .i64 ys.kind,.string ys.name,.int .i64 ys.n,.int .i64 ys.d,.slice B m d,.string yt,.int .i64 yno]] w (ab (Dj r (yn,yp,yq,yc,wQ,zo,ys,yt,yno)) w):=by
 refine wid ?_;obtain⟨T,K,V⟩:=s1;have E:Sl bT w M T K V r.aT:=hr.aT;have I:=Hd (show Dj r (yn,yp,yq,yc,wQ,zo,ys,yt,yno)->(1<=yp/\yp<=256)/\(1<=yq/\yq<=4096)/\(1<=yc/\yc<=3)/\(∀c,c∈r.aT->c.2.2.2.2.2.1<(yp+1).tdiv 2)/\(wQ=true->ys.kind=0/\ys.name.toList= []/\ys.n=0/\ys.d=0/\ys.l= [])/\(wQ=false->∀y,y∈iZ ys->pX y)from fun h=>h);obtain⟨P,Q⟩:=aC (Dj r (yn,yp,yq,yc,wQ,zo,ys,yt,yno));rw[Q];rw[Q]at I;have al:=E.small;obtain⟨W1,ai,F1⟩:=dR (((Fr.nil w).a w (aV r ⟨T,K,V⟩ s2 s3 s4 s5 s6 s7) 28).a (w+1) [.string yn,.int .i64 yp,.int .i64 yq,.int .i64 yc,.bool wQ,.bool zo,.int .i64 ys.kind,.string ys.name,.int .i64 ys.n,.int .i64 ys.d,.slice B m d,.string yt,.int .i64 yno] 68);have HF:=Hd F1;have o1:=aW F1;have H:=h_ E E.len hc Q;have HS:=Hd hs;clear F1 E hc Q hr hs;refine ent func108 rfl ntmps108 ?_;gi_wp2;gi_loopw[5] (fun i wr=>∃k:Nat,k<=K/\i=.int .i64 k/\Hid (∀c,c∈r.aT.take k->c.2.2.2.2.2.1<=256/\2*c.2.2.2.2.2.1<yp)/\Hid (Fr w wr [(w,aV r ⟨T,K,V⟩ s2 s3 s4 s5 s6 s7),(w+1, [.string yn,.int .i64 yp,.int .i64 yq,.int .i64 yc,.bool wQ,.bool zo,.int .i64 ys.kind,.string ys.name,.int .i64 ys.n,.int .i64 ys.d,.slice B m d,.string yt,.int .i64 yno])])) (fun i _=>K-(intOf i).toNat);case atStart=>exact⟨0,bO _,rfl,Hd oO,HF⟩
 case round=>
  obtain⟨k,hk,rfl,W,q⟩:=hrel;have o2:=aW q.out;by_cases ad:k<K
  ·obtain⟨c,R⟩:=dW r.aT k (by rw[H.b];exact ad);obtain⟨b,o,es,rfl,ac,ae⟩:=(H.a.go q.out.bl).get R;obtain⟨rfl,-⟩:=lT ac;obtain⟨t,S⟩:=aC c.2.2.2.2.2.1;have aa:=H.c c (aR R);have am:0<=t:=by rw[<-S];exact aa.2.2.2.2.2.2.2.1
   have v0:=ah (show wr.cell? ⟨b,o+k*7+5,none⟩=some (.int .i64 t) by rw[<-S];exact ae.2 5 _ rfl);have v1:=ah (q.out.aQ 0 1);have v2:=ah (q.out.aQ 1 1);have N:=Hd2 R S;have U:=Hd q.out.drew;clear R ac ae S aa;by_cases J:256<t;·have af:decide (256<t)=true:=cw J;exact AX
   have n1:IntKind.i64.wrap (2*t)=2*t:=by rw[bR];omega
   have af:decide (256<t)=false:=cE J;by_cases g2:yp<=2*t;·have ag:decide (yp<=2*t)=true:=cw g2;exact AX
   have ag:decide (yp<=2*t)=false:=cE g2;gi_wp2;refine ak [] [0,1,2,3,4,5,6,7,8,9,10,11,12,13,14,15,16,17,18] oF oF ?_;repeat(first|refine jR ?_|refine dY ?_|refine jS ?_|refine dY ?_ rfl rfl (dU rfl (by(simp[yielded];rfl))))
   refine aK ?_;refine lit ?_;gi_wp2;exact⟨⟨k+1,oE,by go_num,Hd (bY N.a W.out (by rw[N.u];omega)),U⟩,by simp[intOf];omega⟩
  ·obtain rfl:k=K:=oE;have HT:=Hd (show ∀c,c∈r.aT->c.2.2.2.2.2.1<=256/\2*c.2.2.2.2.2.1<yp by have h:=W.out;rwa [bL (by rw[H.b];exact bh _)]at h);obtain⟨qa,ha⟩:=aC (decide (1<=yp)&&decide (yp<=256));obtain⟨qb,hb⟩:=aC (decide (1<=yq)&&decide (yq<=4096));obtain⟨qc,hc⟩:=aC (decide (1<=yc)&&decide (yc<=3));obtain⟨z,X⟩:=aC (fE ys (.mk 0 ⟨#[]⟩ 0 0 []));have HX:=Hd2 (Ol (HS.out.go q.out.bl)) (KQ ys (HS.out.go q.out.bl));rw[X]at HX;have Z:=fB ha hb hc;have HZ:=Hd X;clear hk ad W ha hb hc X;cases qa
   ·gi_wp2_with (first
      |(have g:=G.out;clear g;refine Cl 105 (aj _ _ _ _) ?_;rintro e j ⟨rfl,rfl⟩;rw[Z.v])
      |(have g:=F.out;clear g;refine Cl 105 (aj _ _ _ _) ?_;rintro e j ⟨rfl,rfl⟩;rw[Z.b];have G:=Hd trivial)
      |(refine Cl 105 (aj _ _ _ _) ?_;rintro e j ⟨rfl,rfl⟩;rw[Z.a];have F:=Hd trivial)
      |(refine Cl 153 HX.a ?_;rintro e j ⟨rfl,f⟩;have D:=Hd (q.out.go f);clear f)
      |(refine Cl 154 HX.u ?_;rintro e j C;obtain⟨b,rfl,hb,f⟩:=C.of;have D:=Hd (q.out.go f);have HB:=Hd hb;clear hb f C;cases b)
      |(refine⟨bq,?_⟩))
    go_ret;exact ab.no rfl (fun h=>by have E:=(I.out h).1;have J:=Z.a;simp at J;omega) q.out.bl
   cases qb
   ·gi_wp2_with (first
      |(have g:=G.out;clear g;refine Cl 105 (aj _ _ _ _) ?_;rintro e j ⟨rfl,rfl⟩;rw[Z.v])
      |(have g:=F.out;clear g;refine Cl 105 (aj _ _ _ _) ?_;rintro e j ⟨rfl,rfl⟩;rw[Z.b];have G:=Hd trivial)
      |(refine Cl 105 (aj _ _ _ _) ?_;rintro e j ⟨rfl,rfl⟩;rw[Z.a];have F:=Hd trivial)
      |(refine Cl 153 HX.a ?_;rintro e j ⟨rfl,f⟩;have D:=Hd (q.out.go f);clear f)
      |(refine Cl 154 HX.u ?_;rintro e j C;obtain⟨b,rfl,hb,f⟩:=C.of;have D:=Hd (q.out.go f);have HB:=Hd hb;clear hb f C;cases b)
      |(refine⟨bq,?_⟩))
    go_ret;exact ab.no rfl (fun h=>by have E:=(I.out h).2.1;have J:=Z.b;simp at J;omega) q.out.bl
   cases qc
   ·gi_wp2_with (first
      |(have g:=G.out;clear g;refine Cl 105 (aj _ _ _ _) ?_;rintro e j ⟨rfl,rfl⟩;rw[Z.v])
      |(have g:=F.out;clear g;refine Cl 105 (aj _ _ _ _) ?_;rintro e j ⟨rfl,rfl⟩;rw[Z.b];have G:=Hd trivial)
      |(refine Cl 105 (aj _ _ _ _) ?_;rintro e j ⟨rfl,rfl⟩;rw[Z.a];have F:=Hd trivial)
      |(refine Cl 153 HX.a ?_;rintro e j ⟨rfl,f⟩;have D:=Hd (q.out.go f);clear f)
      |(refine Cl 154 HX.u ?_;rintro e j C;obtain⟨b,rfl,hb,f⟩:=C.of;have D:=Hd (q.out.go f);have HB:=Hd hb;clear hb f C;cases b)
      |(refine⟨bq,?_⟩))
    go_ret;exact ab.no rfl (fun h=>by have E:=(I.out h).2.2.1;have J:=Z.v;simp at J;omega) q.out.bl
   have Y:=Hd (fun(a:wQ=true->ys.kind=0/\ys.name.toList= []/\ys.n=0/\ys.d=0/\ys.l= []) (b:wQ=false->∀y,y∈iZ ys->pX y)=>(show P by rw[<-H.w];exact⟨tq Z.a,tq Z.b,tq Z.v,fun c hc=>Yo (HT.out c hc).1 (HT.out c hc).2 (tq Z.a).1,a,b⟩));cases wQ
   ·gi_wp2_with (first
      |(have g:=G.out;clear g;refine Cl 105 (aj _ _ _ _) ?_;rintro e j ⟨rfl,rfl⟩;rw[Z.v])
      |(have g:=F.out;clear g;refine Cl 105 (aj _ _ _ _) ?_;rintro e j ⟨rfl,rfl⟩;rw[Z.b];have G:=Hd trivial)
      |(refine Cl 105 (aj _ _ _ _) ?_;rintro e j ⟨rfl,rfl⟩;rw[Z.a];have F:=Hd trivial)
      |(refine Cl 153 HX.a ?_;rintro e j ⟨rfl,f⟩;have D:=Hd (q.out.go f);clear f)
      |(refine Cl 154 HX.u ?_;rintro e j C;obtain⟨b,rfl,hb,f⟩:=C.of;have D:=Hd (q.out.go f);have HB:=Hd hb;clear hb f C;cases b)
      |(refine⟨bq,?_⟩))
    ·go_ret;exact ab.no rfl (fun h=>hno HB ((I.out h).2.2.2.2.2 oY)) D.out.bl
    go_ret;exact ab.yes rfl (Y.out (fun h=>by cases h) (fun _=>HB.out.1 oY)) D.out.bl
   cases z
   ·gi_wp2_with (first
      |(have g:=G.out;clear g;refine Cl 105 (aj _ _ _ _) ?_;rintro e j ⟨rfl,rfl⟩;rw[Z.v])
      |(have g:=F.out;clear g;refine Cl 105 (aj _ _ _ _) ?_;rintro e j ⟨rfl,rfl⟩;rw[Z.b];have G:=Hd trivial)
      |(refine Cl 105 (aj _ _ _ _) ?_;rintro e j ⟨rfl,rfl⟩;rw[Z.a];have F:=Hd trivial)
      |(refine Cl 153 HX.a ?_;rintro e j ⟨rfl,f⟩;have D:=Hd (q.out.go f);clear f)
      |(refine Cl 154 HX.u ?_;rintro e j C;obtain⟨b,rfl,hb,f⟩:=C.of;have D:=Hd (q.out.go f);have HB:=Hd hb;clear hb f C;cases b)
      |(refine⟨bq,?_⟩))
    go_ret;exact ab.no rfl (fun h=>by
     have E:=(I.out h).2.2.2.2.1 oY;have O:fE ys (.mk 0 ⟨#[]⟩ 0 0 [])=true:=by rw[GZ];obtain⟨k,s,n,d,l⟩:=ys;simp only[aU.kind,aU.name,aU.n,aU.d,aU.l]at E;obtain⟨rfl,h3,rfl,rfl,rfl⟩:=E;rw[empty_of h3]
     rw[HZ.out]at O;cases O) D.out.bl
   gi_wp2_with (first
    |(have g:=G.out;clear g;refine Cl 105 (aj _ _ _ _) ?_;rintro e j ⟨rfl,rfl⟩;rw[Z.v])
    |(have g:=F.out;clear g;refine Cl 105 (aj _ _ _ _) ?_;rintro e j ⟨rfl,rfl⟩;rw[Z.b];have G:=Hd trivial)
    |(refine Cl 105 (aj _ _ _ _) ?_;rintro e j ⟨rfl,rfl⟩;rw[Z.a];have F:=Hd trivial)
    |(refine Cl 153 HX.a ?_;rintro e j ⟨rfl,f⟩;have D:=Hd (q.out.go f);clear f)
    |(refine Cl 154 HX.u ?_;rintro e j C;obtain⟨b,rfl,hb,f⟩:=C.of;have D:=Hd (q.out.go f);have HB:=Hd hb;clear hb f C;cases b)
    |(refine⟨bq,?_⟩))
   go_ret;exact ab.yes rfl (Y.out (fun _=>by have h:=(GZ ys _).1 HZ.out;rw[h];exact⟨rfl,by simp[aU.name,Lib.toList_data],rfl,rfl,rfl⟩) (fun h=>by cases h)) D.out.bl
def KR(w:World)(R:List Value)(Q:Nat->Prop)(n:Nat)(i:Value)(wr:World):Prop:=∃k:Nat,k<=n/\i=.int .i64 k/\Hid (Q k)/\Hid (Fr w wr [(w.heap.size,R)])
attribute [irreducible] KR
theorem Om{w:World}(hr:dG w M r s1 s2 s3 s4 s5 s6 s7):
 Calls prog 55 #[.agg (aV r s1 s2 s3 s4 s5 s6 s7).toArray] w (ab (F15 r) w):=by
 refine wid ?_;obtain⟨A1,I,c1⟩:=s1;obtain⟨A4,U,c4⟩:=s4;obtain⟨A5,J,c5⟩:=s5;obtain⟨A7,Z,c7⟩:=s7;have q:Sl bT w M A1 I c1 r.aT:=hr.aT;have h4:Sl dA w M A4 U c4 r.ties:=hr.ties;have h5:Sl aJ w M A5 J c5 r.rounds:=hr.rounds;have h7:Sl Int w M A7 Z c7 r.points:=hr.points;obtain⟨P,hP⟩:=aC (F15 r);rw[hP];have m1:=q.small;have m4:=h4.small;have m5:=h5.small;obtain⟨qb,yK⟩:=aC (decide (0<=r.best)&&decide (r.best<=64));obtain⟨best,Qp⟩:=aC r.best;have HQ:=Hd2 yK Qp;obtain⟨W1,aG,F1⟩:=dR ((Fr.nil w).a w [.string r.name,.slice A1 I c1,.slice s2.A s2.n s2.c,.slice s3.A s3.n s3.c,.slice A4 U c4,.slice A5 J c5,.slice s6.A s6.n s6.c,.slice A7 Z c7,.int .i64 best] 28);have F:=Hd F1;have z:=aW F1;have H:=h_ q h4 h5 h7;have HL:=h_ q.len h4.len h5.len h7.len;have s:=Hd2 hr hP;show CallsIn _ _ _ _ #[.agg #[.string r.name,.slice A1 I c1,.slice s2.A s2.n s2.c,.slice s3.A s3.n s3.c,.slice A4 U c4,.slice A5 J c5,.slice s6.A s6.n s6.c,.slice A7 Z c7,.int .i64 r.best]] _ _;rw[Qp];rw[Qp]at yK;clear F1 q h4 h5 h7 hP hr Qp;by_cases z1:I=0
 ·subst z1;refine ent func55 rfl ntmps55 ?_;gi_wp2_with (first|(refine⟨bq,?_⟩))
  go_ret;exact ab.no rfl (by rw[<-s.u];exact fun h=>h.c0 (c_.1 HL.a)) F.out.bl
 by_cases z5:J=0
 ·subst z5;refine ent func55 rfl ntmps55 ?_;gi_wp2_with (first|(refine⟨bq,?_⟩))
  go_ret;exact ab.no rfl (by rw[<-s.u];exact fun h=>h.r0 (c_.1 HL.c)) F.out.bl
 obtain⟨R,hR⟩:∃R:List Value, [.string r.name,.slice A1 I c1,.slice s2.A s2.n s2.c,.slice s3.A s3.n s3.c,.slice A4 U c4,.slice A5 J c5,.slice s6.A s6.n s6.c,.slice A7 Z c7,.int .i64 best]=R:=⟨_,rfl⟩;have W:=Hd (show ∀V,Fr w V [(w.heap.size,R)]↔Fr w V [(w, [.string r.name,.slice A1 I c1,.slice s2.A s2.n s2.c,.slice s3.A s3.n s3.c,.slice A4 U c4,.slice A5 J c5,.slice s6.A s6.n s6.c,.slice A7 Z c7,.int .i64 best])]from fun V=>by rw[hR]);obtain⟨Q1,ao⟩:∃Q:Nat->Prop,∀k,Q k↔∀c,c∈r.aT.take k->rC c:=⟨_,fun _=>oA⟩;obtain⟨Q4,Vt⟩:∃Q:Nat->Prop,∀k,Q k↔∀t,t∈r.ties.take k->t.2≠ []/\∀k,k∈t.2->sZ k:=⟨_,fun _=>oA⟩;obtain⟨Q5,ZT⟩:∃Q:Nat->Prop,∀k,Q k↔∀x,x∈r.rounds.take k->Dj r x:=⟨_,fun _=>oA⟩;have sD:=Hd ao;have Fg:=Hd Vt;have Qq:=Hd ZT;clear ao Vt ZT hR;have b1:(((I:Nat):Int)==0)=false:=cU.2 oE;have b5:(((J:Nat):Int)==0)=false:=cU.2 oE;obtain⟨zb,ax⟩:=aC (best==0);obtain⟨z7,aw⟩:=aC (((Z:Nat):Int)==0);have HZ:=Hd2 ax aw;have ay:=Hd (show zb=true↔r.best=0 by rw[<-ax,HQ.u];simp);have aD:=Hd (show z7=true↔r.points= [] by rw[<-aw];have:=HL.w;rw[<-c_,this];simp);by_cases aa:zb=z7;rotate_left
 ·have ag:=Hd (show ¬(r.best=0↔r.points= [])from fun h=>aa (by
    have q:=ay.out;have h2:=aD.out;rw[<-h,<-q]at h2;cases zb<;>cases z7<;>simp at h2 |-))
  cases zb<;>cases z7
  case neg.false.false=>exact absurd rfl aa
  case neg.true.true=>exact absurd rfl aa
  all_goals
   clear aa;refine ent func55 rfl ntmps55 ?_
   gi_wp2_with (first
    |(have g:=T.out;clear g;refine Cl 105 (aj _ _ _ _) ?_;rintro e D ⟨rfl,rfl⟩;rw[yK];cases qb)
    |(have g:=S.out;clear g;refine Cl 104 (nD (s.a.points.go F.out.bl)) ?_;rintro e D l;obtain⟨b,rfl,hb,f⟩:=l.of;have T:=Hd hb;replace F:=Hd (F.out.go f);have z:=aW F.out;clear hb f l;cases b)
    |(have g:=O.out;clear g;refine Cl 104 (nD (s.a.prizes.go F.out.bl)) ?_;rintro e D l;obtain⟨b,rfl,hb,f⟩:=l.of;have S:=Hd hb;replace F:=Hd (F.out.go f);have z:=aW F.out;clear hb f l;cases b)
    |(have g:=N.out;clear g;refine Cl 103 (nC (s.a.malus.go F.out.bl)) ?_;rintro e D l;obtain⟨b,rfl,hb,f⟩:=l.of;have O:=Hd hb;replace F:=Hd (F.out.go f);have z:=aW F.out;clear hb f l;cases b)
    |(refine Cl 103 (nC (s.a.bonus.go F.out.bl)) ?_;rintro e D l;obtain⟨b,rfl,hb,f⟩:=l.of;have N:=Hd hb;replace F:=Hd (F.out.go f);have z:=aW F.out;clear hb f l;cases b)
    |(refine⟨bq,?_⟩))
   all_goals try(go_ret;exact ab.no rfl (by
    rw[<-s.u];intro h
    first
     |exact im (N.out.2 h.bonus)
     |exact False.elim (N.out.2 h.bonus)
     |exact im (O.out.2 h.malus)
     |exact False.elim (O.out.2 h.malus)
     |exact im (S.out.2 h.prizes)
     |exact False.elim (S.out.2 h.prizes)
     |exact im (T.out.2 h.points)
     |exact False.elim (T.out.2 h.points)
     |exact ag.out h.bp
     |(have g:=HQ.a;have q:=h.best;rw[cw q.1,cw q.2]at g;cases g)) F.out.bl;done)
 subst aa;have ag:=Hd (bq);refine ent func55 rfl ntmps55 ?_
 gi_wp2_with (first
  |(have g:=T.out;clear g;refine Cl 105 (aj _ _ _ _) ?_;rintro e D ⟨rfl,rfl⟩;rw[yK];cases qb)
  |(have g:=S.out;clear g;refine Cl 104 (nD (s.a.points.go F.out.bl)) ?_;rintro e D l;obtain⟨b,rfl,hb,f⟩:=l.of;have T:=Hd hb;replace F:=Hd (F.out.go f);have z:=aW F.out;clear hb f l;cases b)
  |(have g:=O.out;clear g;refine Cl 104 (nD (s.a.prizes.go F.out.bl)) ?_;rintro e D l;obtain⟨b,rfl,hb,f⟩:=l.of;have S:=Hd hb;replace F:=Hd (F.out.go f);have z:=aW F.out;clear hb f l;cases b)
  |(have g:=N.out;clear g;refine Cl 103 (nC (s.a.malus.go F.out.bl)) ?_;rintro e D l;obtain⟨b,rfl,hb,f⟩:=l.of;have O:=Hd hb;replace F:=Hd (F.out.go f);have z:=aW F.out;clear hb f l;cases b)
  |(refine Cl 103 (nC (s.a.bonus.go F.out.bl)) ?_;rintro e D l;obtain⟨b,rfl,hb,f⟩:=l.of;have N:=Hd hb;replace F:=Hd (F.out.go f);have z:=aW F.out;clear hb f l;cases b)
  |(refine⟨bq,?_⟩))
 all_goals try(go_ret;exact ab.no rfl (by
  rw[<-s.u];intro h
  first
   |exact im (N.out.2 h.bonus)
   |exact False.elim (N.out.2 h.bonus)
   |exact im (O.out.2 h.malus)
   |exact False.elim (O.out.2 h.malus)
   |exact im (S.out.2 h.prizes)
   |exact False.elim (S.out.2 h.prizes)
   |exact im (T.out.2 h.points)
   |exact False.elim (T.out.2 h.points)
   |exact ag.out h.bp
   |(have g:=HQ.a;have q:=h.best;rw[cw q.1,cw q.2]at g;cases g)) F.out.bl;done)
 have al:=Hd (show r.best=0↔r.points= [] by
  have q:=HZ.a;have h2:=HZ.u;have h3:=HL.w;rw[HQ.u];constructor
  ·intro e;rw[e]at q;rw[<-q]at h2;have:((Z:Nat):Int)=0:=by simpa using h2
   exact c_.1 oE
  intro e;rw[e]at h3;have h4:Z=0:=by simpa using h3.symm
  rw[h4]at h2;rw[<-h2]at q;simpa using q)
 have HI:=Zw (N.out.1 oY) (O.out.1 oY) (S.out.1 oY) (T.out.1 oY) (show 0<=r.best/\r.best<=64 from tq HQ.a) al.out;have HC:=Hd2 (show r.aT≠ [] by intro e;have:=HL.a;rw[e]at this;exact z1 (by simpa using this.symm)) (show r.rounds≠ [] by intro e;have:=HL.c;rw[e]at this;exact z5 (by simpa using this.symm));have F0:=Hd ((W.out _).2 F.out);clear z N O S T al F;gi_loopw[3] (fun i wr=>KR w R Q1 I i wr) (fun i _=>I-(intOf i).toNat);case atStart=>unfold KR;exact⟨0,bO _,rfl,Hd ((sD.out 0).2 oO),F0⟩
 case round=>
  unfold KR at hrel;obtain⟨k,hk,rfl,G,E⟩:=hrel;have F:=Hd ((W.out _).1 E.out);have z:=aW F.out;by_cases X:k<I
  ·obtain⟨c,ai⟩:=dW r.aT k (by rw[HL.a];exact X);obtain⟨b,o,es,rfl,aq,Y⟩:=(H.a.go F.out.bl).get ai;obtain⟨rfl,-⟩:=lT aq;have v0:wr.cell? ⟨b,o+k*7,none⟩=some (.string c.1):=Y.2 0 _ rfl;have v1:wr.cell? ⟨b,o+k*7+1,none⟩=some (.int .i64 c.2.1):=Y.2 1 _ rfl;have v2:wr.cell? ⟨b,o+k*7+2,none⟩=some (.int .i64 c.2.2.1):=Y.2 2 _ rfl;have v3:wr.cell? ⟨b,o+k*7+3,none⟩=some (.int .i64 c.2.2.2.1):=Y.2 3 _ rfl;have v4:wr.cell? ⟨b,o+k*7+4,none⟩=some (.int .i64 c.2.2.2.2.1):=Y.2 4 _ rfl;have v5:wr.cell? ⟨b,o+k*7+5,none⟩=some (.int .i64 c.2.2.2.2.2.1):=Y.2 5 _ rfl;have v6:wr.cell? ⟨b,o+k*7+6,none⟩=some (.bool c.2.2.2.2.2.2):=Y.2 6 _ rfl;have am:=Hd ai;clear ai aq Y
   gi_wp2_with (first
    |(refine Cl 106 (RS c _) ?_;rintro e D l;obtain⟨b,rfl,hb,f⟩:=l.of;have HX:=Hd hb;replace F:=Hd (F.out.go f);have z:=aW F.out;clear hb f l;cases b)
    |fail)
   ·go_ret;exact ab.no rfl (by rw[<-s.u];exact fun h=>hno HX (h.aT _ (aR am.out))) F.out.bl
   exact⟨by unfold KR;exact⟨k+1,oE,by go_num,Hd ((sD.out _).2 (bY am.out ((sD.out k).1 G.out) (HX.out.1 oY))),Hd ((W.out _).2 F.out)⟩,by simp[intOf];omega⟩
  ·obtain rfl:k=I:=oE;have Dx:=Hd (show ∀c,c∈r.aT->rC c by have h:=(sD.out k).1 G.out;rwa [bL (by rw[HL.a];exact bh _)]at h);clear hk X G;gi_wp2;clear z F;gi_loopw[4] (fun i wr=>KR w R Q4 U i wr) (fun i _=>U-(intOf i).toNat);case atStart=>unfold KR;exact⟨0,bO _,rfl,Hd ((Fg.out 0).2 oO),E⟩
   case round=>
    unfold KR at hrel;obtain⟨j,hj,rfl,G,E⟩:=hrel;have F:=Hd ((W.out _).1 E.out);have z:=aW F.out;by_cases X:j<U
    ·obtain⟨t,af⟩:=dW r.ties j (by rw[HL.b];exact X);obtain⟨b,o,B,m,d,rfl,⟨p0,p1⟩,hks⟩:=(H.b.go F.out.bl).n_ af;have ae:=hks.len;have aL:=hks.small;obtain⟨ks,Fh⟩:=aC t.2;rw[Fh]at hks ae;obtain⟨V,rfl⟩:∃V,V=wr:=⟨_,rfl⟩;have C:=oK af Fh hks ae p1;by_cases av:m=0;·subst av;clear af Fh hks ae;gi_wp2;go_ret;exact ab.no rfl (by rw[<-s.u];intro h;have q:=(h.ties t (aR C.a)).1;rw[C.b]at q;exact q (c_.1 C.d)) F.out.bl
     have aI:(((m:Nat):Int)==0)=false:=cU.2 oE;obtain⟨Q6,ap⟩:∃Q:Nat->Prop,∀k,Q k↔∀y,y∈ks.take k->sZ y:=⟨_,fun _=>oA⟩;have ac:=Hd ap;clear af Fh hks ae ap;gi_wp2;clear z;gi_loopw[5] (fun i wr=>KR w R Q6 m i wr/\Hid (Below V V wr)) (fun i _=>m-(intOf i).toNat);case atStart=>exact⟨by unfold KR;exact⟨0,bO _,rfl,Hd ((ac.out 0).2 oO),E⟩,Hd pd⟩
     case round=>
      obtain⟨hrel,hV⟩:=hrel;unfold KR at hrel;obtain⟨g,hg,rfl,hG,E⟩:=hrel;have F:=Hd ((W.out _).1 E.out);have z:=aW F.out;have p1:=(a_ hV.out []).cell oO C.x;by_cases ar:g<m
      ·obtain⟨y,hy⟩:=dW ks g (by rw[C.d];exact ar);obtain⟨b3,o3,rfl,y0,y1,y2⟩:=(C.c.go hV.out).xQ hy;have HY:=Hd hy;clear hy
       gi_wp2_with (first
        |(refine Cl 107 (Oi y _) ?_;rintro e D l;obtain⟨b,rfl,hb,f⟩:=l.of;have HX:=Hd hb;replace F:=Hd (F.out.go f);have aF:=Hd (hV.out.trans (f.mono hV.out.size));clear hb f l;cases b)
        |fail)
       ·go_ret;exact ab.no rfl (by rw[<-s.u];intro h;refine hno HX ((h.ties t (aR C.a)).2 y ?_);rw[C.b];exact aR HY.out) F.out.bl
       exact⟨⟨by unfold KR;exact⟨g+1,oE,by go_num,Hd ((ac.out _).2 (bY HY.out ((ac.out g).1 hG.out) (HX.out.1 oY))),Hd ((W.out _).2 F.out)⟩,aF⟩,by simp[intOf];omega⟩
      ·obtain rfl:g=m:=oE;have aB:=Hd (show t.2≠ []/\∀y,y∈t.2->sZ y by
        rw[C.b];refine⟨fun e=>av (by have:=C.d;rw[e]at this;exact this.symm),?_⟩;have h:=(ac.out g).1 hG.out
        rwa [bL (by rw[C.d];exact bh _)]at h)
       clear hg ar hG hV;gi_wp2;exact⟨by unfold KR;exact⟨j+1,oE,by go_num,Hd ((Fg.out _).2 (bY C.a ((Fg.out j).1 G.out) aB.out)),E⟩,by simp[intOf];omega⟩
    ·obtain rfl:j=U:=oE;have XZ:=Hd (show ∀t,t∈r.ties->t.2≠ []/\∀k,k∈t.2->sZ k by have h:=(Fg.out j).1 G.out;rwa [bL (by rw[HL.b];exact bh _)]at h);clear hj X G;gi_wp2;clear z F;gi_loopw[6] (fun i wr=>KR w R Q5 J i wr) (fun i _=>J-(intOf i).toNat);case atStart=>unfold KR;exact⟨0,bO _,rfl,Hd ((Qq.out 0).2 oO),E⟩
     case round=>
      unfold KR at hrel;obtain⟨g,hg,rfl,G,E⟩:=hrel;have F:=Hd ((W.out _).1 E.out);have z:=aW F.out;by_cases X:g<J
      ·obtain⟨y,hy⟩:=dW r.rounds g (by rw[HL.c];exact X);obtain⟨b1,u1,D1,m1,e1,rfl,⟨x0,x1,x2,x3,x4,x5⟩,⟨x6,x7,x8,x9,x10⟩,⟨x11,x12⟩,-,-,hs1⟩:=(H.c.go F.out.bl).iw hy;obtain⟨yn,yp,yq,yc,wQ,zo,ys,yt,yno⟩:=y;simp only[au]at x0 x1 x2 x3 x4 x5 x6 x7 x8 x9 x10 x11 x12 hs1;have ad:=Ji (yn:=yn) (yt:=yt) (yp:=yp) (yq:=yq) (yc:=yc) (yno:=yno) (wQ:=wQ) (zo:=zo) ((s.a.go F.out.bl).go pd.drew) Dx.out (hs1.go pd.drew);simp only[aV]at ad;rw[HQ.u]at ad;have aE:=Hd ad;clear ad;have HD:=Hd F.out.drew;have HY:=Hd hy;have v0:=ah x0;have v1:=ah x1;have v2:=ah x2;have v3:=ah x3;have v4:=ah x4;have v5:=ah x5;have v6:=ah x6;have v7:=ah x7;have v8:=ah x8;have v9:=ah x9;have aN:=ah x10;have aO:=ah x11;have aP:=ah x12;have u0:=ah (F.out.aQ 0 0);have aM:=ah (F.out.aQ 0 1);have u2:=ah (F.out.aQ 0 2);have u3:=ah (F.out.aQ 0 3);have u4:=ah (F.out.aQ 0 4);have u5:=ah (F.out.aQ 0 5);have u6:=ah (F.out.aQ 0 6);have u7:=ah (F.out.aQ 0 7);have u8:=ah (F.out.aQ 0 8);clear hy hs1 x0 x1 x2 x3 x4 x5 x6 x7 x8 x9 x10 x11 x12;gi_wp2;refine ak [] [0,1,2,3,4,5,6,7] oF oF ?_;refine eH ?_;refine aH fun K hK=>aA rfl rfl wy fun K' an=>?_;gi_wp2;refine Cl 108 aE.out ?_;rintro e D l;obtain⟨b,rfl,hb,f⟩:=l.of;have HX:=Hd hb;have F2:=Hd (HD.out.go f);refine an _ _ ⟨?_,hK _ _ ?_⟩;clear an K' hK K;·exact a_ f _
       clear hb f l;cases b;·refine lit ?_;refine eH ?_;refine aK ?_;refine lit ?_;gi_wp2;go_ret;exact ab.no rfl (by rw[<-s.u];exact fun h=>hno HX (h.rounds _ (aR HY.out))) F2.out.bl
       refine lit ?_;refine eH ?_;refine aK ?_;refine lit ?_;gi_wp2;exact⟨by unfold KR;exact⟨g+1,oE,by go_num,Hd ((Qq.out _).2 (bY HY.out ((Qq.out g).1 G.out) (HX.out.1 oY))),Hd ((W.out _).2 F2.out)⟩,by simp[intOf];omega⟩
      ·obtain rfl:g=J:=oE;have az:=Hd (show ∀x,x∈r.rounds->Dj r x by have h:=(Qq.out g).1 G.out;rwa [bL (by rw[HL.c];exact bh _)]at h);clear hg X G;gi_wp2;go_ret;exact ab.yes rfl (by rw[<-s.u];exact⟨HC.a,HC.u,Dx.out,HI.a,HI.b,HI.c,HI.d,HI.e,HI.y,XZ.out,az.out⟩) F.out.bl
theorem Sl.Vu{w:World}{k:Nat}{l:List Bool}{x:Bool}(h:Sl Bool w M A n c l)(hk:l[k]?=some x):∃b o,A=some ⟨b,o,none⟩/\w.cell? ⟨b,o+k,none⟩=some (.bool x):=by obtain⟨b,o,a,rfl,f,g⟩:=h.get hk;have j:a=_:=f;subst j;have D:=g.2 0 _ rfl;rw[show Rep.sz Bool=1 from rfl,ij]at D;exact⟨b,o,rfl,D⟩
def Dy(f:Nat->Bool)(k:bK):Bool:=decide (k.1=5)&&f k.2.2.toNat
theorem Oo{bs:List Bool}(f:Nat->Bool){w:World}(hs:Sl bK w M B m d ks)(hb:Sl Bool w M' A n c bs)(hf:∀u,u<n->bs[u]?=some (f u))(hr:∀k,k∈ks->k.1=5->∃u:Nat,k.2.2=(u:Int)/\u<n):
 CB 109 #[.agg #[.string nm,.slice B m d],.slice A n c] (.bool (ks.any (Dy f))) w:=by
 refine wid ?_;have T:=hs.small;have U:=hb.small;obtain⟨W1,s,F1⟩:=dR ((Fr.nil w).a w [.string nm,.slice B m d] 142);have H:=oK (hs.go F1.bl) hs.len (hb.go F1.bl) hf hr;have HB:=Hd F1.bl;have V:=aW F1;clear F1 hs hb hf hr;refine ent func109 rfl ntmps109 ?_;gi_wp2;gi_loopw[5] (fun i wr=>∃k:Nat,k<=m/\i=.int .i64 k/\W1=wr/\Hid ((ks.take k).any (Dy f)=false)) (fun i _=>m-(intOf i).toNat);case atStart=>exact⟨0,bO _,rfl,by first|rfl|exact s|exact s.symm,Hd oO⟩
 case round=>
  obtain⟨k,O,rfl,rfl,Q⟩:=hrel;by_cases D:k<m
  ·obtain⟨y,g⟩:=dW ks k (by rw[H.b];exact D);obtain⟨b,o,rfl,G,I,J⟩:=H.a.xQ g;have j:=xI (Dy f) g;obtain⟨q,E,R⟩:=y;simp only at G I J;by_cases K:q=5
   ·subst K;obtain⟨u,rfl,P⟩:=H.x _ (aR g) rfl;have C:=H.d u P;obtain⟨b2,W,rfl,N⟩:=H.c.Vu C;obtain⟨z,l⟩:=aC (f u);rw[l]at N;have HY:=fB j (show Dy f (5,E,(u:Int))=z by simp[Dy,l]) g;clear j g C l;cases z;·gi_wp2;exact⟨⟨k+1,oE,by go_num,bq,Hd (by rw[HY.a,Q.out,HY.b];rfl)⟩,by simp[intOf];omega⟩
    have F:=Hd (show ks.any (Dy f)=true from iz.2 ⟨_,aR HY.v,HY.b⟩);gi_wp2;go_ret;exact⟨by rw[F.out];rfl,HB.out⟩
   have S:(q==5)=false:=cU.2 K;have HY:=Hd2 j (show Dy f (q,E,R)=false by simp[Dy,K]);clear j g K;gi_wp2_with (first|(refine⟨bq,?_⟩))
   exact⟨⟨k+1,oE,by go_num,bq,Hd (by rw[HY.a,Q.out,HY.u];rfl)⟩,by simp[intOf];omega⟩
  ·obtain rfl:k=m:=oE;have F:=Hd (show ks.any (Dy f)=false by have h:=Q.out;rwa [bL (by rw[H.b];exact bh _)]at h);clear O D;gi_wp2;go_ret;exact⟨by rw[F.out];rfl,HB.out⟩
def uV(f:Nat->Nat)(k:bK):Nat:=if k.1=5 then f k.2.2.toNat else 1
theorem Vw{f:Nat->Nat}{l:List bK}{k:Nat}{y:bK}(h:l[k]?=some y):((l.take (k+1)).map (uV f)).sum=((l.take k).map (uV f)).sum+uV f y:=by rw[eo,h];simp
theorem cnt_le{f:Nat->Nat}(hf:∀u,f u<=33):∀l:List bK,(l.map (uV f)).sum<=33*l.length
 | []=>by simp
 |k::l=>by
  have h1:=cnt_le hf l;have h2:uV f k<=33:=by unfold uV;split;exact hf _;omega
  simp only[fg,mf,et];omega
theorem count_any{of:List Int}(f:Nat->Nat){w:World}(hs:Sl bK w M B m d ks)(hb:Sl Int w M' A n c of)(hf:∀u,u<n->of[u]?=some ((f u:Nat):Int))(h33:∀u,f u<=33)(hr:∀k,k∈ks->k.1=5->∃u:Nat,k.2.2=(u:Int)/\u<n)(hm:m<=1000):
 CB 110 #[.agg #[.string nm,.slice B m d],.slice A n c] (.int .i64 ((min ((ks.map (uV f)).sum) 33:Nat):Int)) w:=by
 refine wid ?_;have ab:=hb.small;obtain⟨W1,E,F1⟩:=dR ((Fr.nil w).a w [.string nm,.slice B m d] 142);have H:=oK (hs.go F1.bl) hs.len (hb.go F1.bl) hf hr;have C:=Hd h33;have HB:=Hd F1.bl;have o1:=aW F1;clear F1 hs hb hf hr h33;refine ent func110 rfl ntmps110 ?_;gi_wp2;gi_loopw[5,6] (fun v i wr=>∃k s:Nat,k<=m/\v=.int .i64 (s:Int)/\i=.int .i64 k/\W1=wr/\Hid (((ks.take k).map (uV f)).sum=s)) (fun _ i _=>m-(intOf i).toNat);case atStart=>exact⟨0,0,bO _,rfl,rfl,by first|rfl|exact E|exact E.symm,Hd oO⟩
 case round=>
  obtain⟨k,s,V,rfl,rfl,rfl,Q⟩:=hrel;have X:s<=33000:=by have U:=cnt_le C.out (ks.take k);rw[Q.out,cI]at U;omega
  by_cases J:k<m
  ·obtain⟨y,g⟩:=dW ks k (by rw[H.b];exact J);obtain⟨b,o,rfl,P,R,S⟩:=H.a.xQ g;have j:=Vw (f:=f) g;obtain⟨q,O,W⟩:=y;simp only at P R S;by_cases K:q=5
   ·subst K;obtain⟨u,rfl,N⟩:=H.x _ (aR g) rfl;have I:=H.d u N;obtain⟨b2,o2,x,rfl,T,-,-,D⟩:=H.c.pR N;rw[I]at D;cases D;obtain⟨z,l⟩:=aC (f u);have Y:z<=33:=by rw[<-l];exact C.out u
    rw[l]at T;have HY:=Hd2 j (show uV f (5,O,(u:Int))=z by simp[uV,l]);clear j g I l;gi_wp2;exact⟨⟨k+1,s+z,oE,by go_num,by go_num,bq,Hd (by rw[HY.a,Q.out,HY.u])⟩,by simp[intOf];omega⟩
   have Z:(q==5)=false:=cU.2 K;have HY:=Hd2 j (show uV f (q,O,W)=1 by simp[uV,K]);clear j g K;gi_wp2;exact⟨⟨k+1,s+1,oE,by go_num,by go_num,bq,Hd (by rw[HY.a,Q.out,HY.u])⟩,by simp[intOf];omega⟩
  ·obtain rfl:k=m:=oE;have F:=Hd (show(ks.map (uV f)).sum=s by have h:=Q.out;rwa [bL (by rw[H.b];exact bh _)]at h);clear V J;by_cases aa:s<=33;·have G:min (s:Int) 33=(s:Int):=oE;have HM:=Hd (show((min ((ks.map (uV f)).sum) 33:Nat):Int)=(s:Int) by rw[F.out];omega);exact YC
   have G:min (s:Int) 33=33:=oE;have HM:=Hd (show((min ((ks.map (uV f)).sum) 33:Nat):Int)=33 by rw[F.out];omega);exact YC
theorem RX:(prog.info? 4).map (fun i=>(i.zero,i.size,i.bytes))=some (some (.bool false),1,1):=oF
theorem Dz:iU 4 (Rep.sz Bool):=iU.mk' RX rfl oE
theorem RY:iU 3 (Rep.sz Int):=iU.mk' qo rfl oE
def Vx(r:aS):Prop:=∀t,t∈r.ties->∀k,k∈t.2->k.1=5->∃u:Nat,k.2.2=(u:Int)/\u<r.ties.length
theorem agk(hc:xY r=0):Vx r:=by intro t S k g K;obtain⟨j,f⟩:=Dl hc;obtain⟨-,-,-,b⟩:=Dn j;unfold xX at f;rw[cJ,cQ]at f;unfold Yc at b;rw[cJ,cQ]at b;have N:iW (dP r) (dQ r) (jF r) k=k:=cW (cQ.1 (f.1 t S) k g);have a:=cQ.1 (b.1 t S) k g;obtain⟨kd,nm,n⟩:=k;simp only at K;subst K;unfold iW at N;unfold I_ at a;simp only[if_neg (show ¬(5:Int)=1 by omega),if_neg (show ¬(5:Int)=2 by omega),lL]at N a;have l:=cW a;have o:dO (jF r) nm=n:=gM (fun x:bK=>x.2.2) N;have h:=oW (jF r) nm;rw[cC]at h;exact⟨n.toNat,by show n=_;omega,oE⟩
structure yg{α:Type} [kJ α] (e:TypeId)(w u:World)(L:List (Nat×List Value))(v:Value)(k:Nat)(xs:List α)(wr:World):Prop where
 own:bD α e wr [] u.heap.size v k xs
 fr:Fr w wr L
 bb:Below u u wr
 hL:∀b vs,(b,vs)∈L->b<u.heap.size
 hW:w.heap.size<=u.heap.size
section
variable {α:Type} [kJ α] {e:TypeId}{w u wr wz:World}{k:Nat}{L:List (Nat×List Value)}{v:Value}{xs:List α}
theorem yg.go(h:yg e w u L v k xs wr)(hb:Below wr wr wz):yg e w u L v k xs wz:=⟨h.own.go hb,h.fr.go hb,h.bb.trans (hb.mono h.bb.size),h.hL,h.hW⟩
theorem yg.app(h:yg e w u L v k xs wr)(ht:prog.underlying t=some (.slice e))(hi:iU e (Rep.sz α)){x:α}{cs:List Value}(hx:Rep.rd wr (bP v++ []) x cs)(hn:k<=100000):
 ∃v' w',(Builtin.append_ #[t,t] t #[v,.slice (some ⟨wr,0,none⟩) 1 1]).run prog (wr.alloc (.cells cs.toArray e))=.ok v' w'/\yg e w u L v' (k+1) (xs++ [x]) w':=by
 obtain⟨v',w',j,V,f,-,-⟩:=h.own.app1 ht hi h.bb.size (b_.nil _) hx hn;exact⟨v',w',j,V,h.fr.ZI f (fun q a=>⟨cD h.hW (h.own.lt a).1,fun b l g e=>by have o:=(h.own.lt a).1;have s:=h.hL b l g;omega⟩),h.bb.grown f h.bb.size (fun q a=>(h.own.lt a).1),h.hL,h.hW⟩
theorem yg.lit{w1:World}(h:Fr w w1 L)(e:TypeId):yg (α:=α) e w w1 L (.slice (some ⟨w1,0,none⟩) 0 0) 0 [] (w1.alloc (.cells #[] e)):=⟨bD.lit _ _ pc,h.go (by exact bel),by exact bel,h.lt,h.bl.size⟩
theorem yg.sl(h:yg e w u L v k xs wr)(hn:k<=100000):∃A c,v=.slice A k c/\Sl α wr [] A k c xs:=h.own.sl oE pf
end
def RZ{α:Type} [kJ α] (e:TypeId)(w u:World)(L:List (Nat×List Value))(F:Nat->List α)(n:Nat)(v i:Value)(wr:World):Prop:=∃k:Nat,k<=n/\i=.int .i64 k/\Hid (yg e w u L v k (F k) wr)
def Yp{α:Type} [Rep α] (w:World)(L:List (Nat×List Value))(F:Nat->List α)(n:Nat)(v i:Value)(wr:World):Prop:=∃(k:Nat) (A:Option Addr) (c:Nat),k<=n/\i=.int .i64 k/\v=.slice A n c/\Hid (Sl α wr [] A n c (F k))/\Hid (Fr w wr L)
attribute [irreducible] RZ Yp
theorem ou{α:Type}(f:Nat->α)(k:Nat):(List.range (k+1)).map f=(List.range k).map f++ [f k]:=by rw[nF,eO];rfl
theorem yh{α:Type}(f:Nat->α){u:Nat}(h:u<n):((List.range n).map f)[u]?=some (f u):=by simp[h]
theorem agl{t:Nat}(h:ts[i]?=some x):vw ts (t+1) i=x.2.any (Dy (vw ts t)):=by rw[vw,h];rfl
theorem Jj{w:World}(hr:dG w M r s1 s2 s3 s4 s5 s6 s7)(hf:Vx r)(hl:s4.n<=1000):
 Calls prog 56 #[.agg (aV r s1 s2 s3 s4 s5 s6 s7).toArray] w fun e w'=>∃A c,e=.returned (.slice A s4.n c)/\Sl Bool w' [] A s4.n c ((List.range s4.n).map (vw r.ties s4.n))/\Below w w w':=by
 refine wid ?_;obtain⟨F,n,I⟩:=s4;have O:Sl dA w M F n I r.ties:=hr.ties;obtain⟨L,P⟩:∃L:List (Nat×List Value), [(w.heap.size,aV r s1 s2 s3 ⟨F,n,I⟩ s5 s6 s7)]=L:=⟨_,rfl⟩;obtain⟨W1,ac,F1⟩:=dR ((Fr.nil w).a w (aV r s1 s2 s3 ⟨F,n,I⟩ s5 s6 s7) 28);have HL:=Hd (show ∀V,Fr w V L->Fr w V [(w,aV r s1 s2 s3 ⟨F,n,I⟩ s5 s6 s7)]from fun V h=>by rw[P];exact h);have F1:Fr w W1 L:=by rw[<-P];exact F1
 obtain⟨W2,ab⟩:=aC (W1.alloc (.cells #[] 4));have W:=Hd (show yg (α:=Bool) 4 w W1 L (.slice (some ⟨W1,0,none⟩) 0 0) 0 ((List.range 0).map (vw r.ties 0)) W2 by rw[<-ab];exact yg.lit F1 _);have H:=h_ O O.len hf hl;have HN:n<=1000:=hl;have o1:=aW (HL.out _ F1);have o2:=aW (HL.out _ W.out.fr);clear F1 O hr hf hl P;refine ent func56 rfl ntmps56 ?_;gi_wp2;gi_loopw[3,4] (fun v i wr=>RZ (α:=Bool) 4 w W1 L (fun k=>(List.range k).map (vw r.ties 0)) n v i wr) (fun _ i _=>n-(intOf i).toNat);case atStart=>unfold RZ;exact⟨0,bO _,rfl,W⟩
 case round=>
  unfold RZ at hrel;obtain⟨k,hk,rfl,f⟩:=hrel;have N:=aW (HL.out _ f.out.fr);by_cases R:k<n
  ·obtain⟨v',wA,E,s⟩:=f.out.app (x:=true) (cs:= [.bool true]) underlying54 Dz rfl oE;have q:=Hd2 E s;have o4:=aW (HL.out _ s.fr);clear E s
   gi_wp2_with (first
    |(have g:=q;clear g;gi_at_builtin;refine cY rfl fun K C=>?_;have X:=q.a;refine aI _ _ _ rfl rfl rfl X (C _ _ ?_);clear C K X)
    |fail)
   exact⟨by unfold RZ;exact⟨k+1,oE,by go_num,Hd (by have h:yg _ _ _ _ _ _ ((List.range k).map (vw r.ties 0)++ [vw r.ties 0 k]) _:=q.u;rw[<-ou]at h;exact h)⟩,by simp[intOf];omega⟩
  ·obtain rfl:k=n:=oE;obtain⟨A,c,rfl,D⟩:=f.out.sl oE;have l:=Hd2 D f.out.fr;clear hk R f D o1 o2;obtain⟨V0,rfl⟩:∃V,V=wr:=⟨_,rfl⟩;gi_wp2;clear N;gi_loopw[3,5] (fun v i wr=>Yp (α:=Bool) w L (fun t=>(List.range k).map (vw r.ties t)) k v i wr) (fun _ i _=>k-(intOf i).toNat);case atStart=>unfold Yp;exact⟨0,A,c,bO _,rfl,rfl,Hd l.a,Hd l.u⟩
   case round=>
    unfold Yp at hrel;obtain⟨t,A,c,ht,rfl,rfl,Q,J⟩:=hrel;have N:=aW (HL.out _ J.out);by_cases R:t<k
    ·obtain⟨G,rfl⟩:∃V,V=wr:=⟨_,rfl⟩;obtain⟨VB,aa⟩:=aC (G.alloc (.cells #[] 4));have RB:=Hd (show yg (α:=Bool) 4 w G L (.slice (some ⟨G,0,none⟩) 0 0) 0 ((List.range 0).map (vw r.ties (t+1))) VB by rw[<-aa];exact yg.lit J.out _);have o5:=aW (HL.out _ RB.out.fr);gi_wp2;clear N o5;gi_loopw[6,7] (fun v i wr=>RZ (α:=Bool) 4 w G L (fun j=>(List.range j).map (vw r.ties (t+1))) k v i wr) (fun _ i _=>k-(intOf i).toNat);case atStart=>unfold RZ;exact⟨0,bO _,rfl,RB⟩
     case round=>
      unfold RZ at hrel;obtain⟨j,hj,rfl,f⟩:=hrel;have N:=aW (HL.out _ f.out.fr);by_cases Z:j<k
      ·obtain⟨x,hx⟩:=dW r.ties j (by rw[H.b];exact Z);obtain⟨b,o,B,m',d',rfl,⟨p0,p1⟩,hks⟩:=(H.a.go f.out.fr.bl).n_ hx;have U:=Hd (Oo (nm:=x.1) (vw r.ties t) hks (Q.out.go f.out.bb) (fun u S=>yh _ S) (fun y hy h5=>by
        obtain⟨u,e,S⟩:=H.c x (aR hx) y hy h5;exact⟨u,e,by rw[<-H.b];exact S⟩))
       obtain⟨z,T⟩:=aC (x.2.any (Dy (vw r.ties t)));have HZ:=Hd ((agl (t:=t) hx).trans T);rw[T]at U;clear hx hks T
       gi_wp2_with (first
        |(have g:=q;clear g;gi_at_builtin;refine cY rfl fun K C=>?_;have X:=q.a;refine aI _ _ _ rfl rfl rfl X (C _ _ ?_);clear C K X)
        |(refine Cl 109 U.out ?_;rintro e w3 ⟨rfl,Y⟩;obtain⟨v',wA,E,s⟩:=(f.out.go Y).app (x:=z) (cs:= [.bool z]) underlying54 Dz rfl oE;have q:=Hd2 E s;have o4:=aW (HL.out _ s.fr);clear E s Y)
        |fail)
       exact⟨by unfold RZ;exact⟨j+1,oE,by go_num,Hd (by have h:=q.u;rw[<-HZ.out,<-ou]at h;exact h)⟩,by simp[intOf];omega⟩
      ·obtain rfl:j=k:=oE;obtain⟨A',c',rfl,D⟩:=f.out.sl oE;have l:=Hd2 D f.out.fr;clear hj Z f D;gi_wp2;exact⟨by unfold Yp;exact⟨t+1,A',c',oE,by go_num,rfl,Hd l.a,Hd l.u⟩,by simp[intOf];omega⟩
    ·obtain rfl:t=k:=oE;have l:=Hd2 Q.out J.out.bl;clear ht R Q J;gi_wp2;go_ret;exact⟨A,c,rfl,l.a,l.u⟩
theorem agm{t:Nat}(h:ts[i]?=some x):KJ ts (t+1) i=min ((x.2.map (uV (KJ ts t))).sum) 33:=by rw[KJ,h];rfl
theorem Vy(ts:List dA):∀t i,KJ ts t i<=33
 |0,_=>by simp[KJ]
 |t+1,i=>by
  unfold KJ;split;·omega
  omega
def qH(ts:List dA)(t u:Nat):Int:=((KJ ts t u:Nat):Int)
theorem Oq(ts:List dA)(n:Nat):List.replicate n (0:Int)=(List.range n).map (qH ts 0):=by
 apply lB;·simp
 intro i b a;simp[qH,KJ]
theorem Vz{w:World}(hr:dG w M r s1 s2 s3 s4 s5 s6 s7)(hf:Vx r)(hl:s4.n<=1000)(hk:∀t,t∈r.ties->t.2.length<=1000):
 Calls prog 57 #[.agg (aV r s1 s2 s3 s4 s5 s6 s7).toArray] w fun e w'=>∃A c,e=.returned (.slice A s4.n c)/\Sl Int w' [] A s4.n c ((List.range s4.n).map (qH r.ties s4.n))/\Below w w w':=by
 refine wid ?_;obtain⟨q,n,C⟩:=s4;have J:Sl dA w M q n C r.ties:=hr.ties;obtain⟨L,N⟩:∃L:List (Nat×List Value), [(w.heap.size,aV r s1 s2 s3 ⟨q,n,C⟩ s5 s6 s7)]=L:=⟨_,rfl⟩;obtain⟨W1,af,F1⟩:=dR ((Fr.nil w).a w (aV r s1 s2 s3 ⟨q,n,C⟩ s5 s6 s7) 28);have HL:=Hd (show ∀V,Fr w V L->Fr w V [(w,aV r s1 s2 s3 ⟨q,n,C⟩ s5 s6 s7)]from fun V h=>by rw[N];exact h);have F1:Fr w W1 L:=by rw[<-N];exact F1
 have HN:n<=1000:=hl;have I:((List.replicate n (0:Int)).map (Value.int .i64)).toArray=Array.replicate n (Value.int .i64 0):=oO;have mk:=qR (t:=26) underlying26 n oE;rw[I]at mk;obtain⟨R,T⟩:=aC (W1.alloc (.cells (Array.replicate n (Value.int .i64 0)) 3));have f:=Hd2 (show Sl Int R [] (some ⟨W1,0,none⟩) n n ((List.range n).map (qH r.ties 0)) by rw[<-Oq,<-T,<-I];exact(show Row _ _ _ from ko W1 _).sl oO oO oE (fun x hx=>by rw[(List.mem_replicate.1 hx).2];unfold i64;omega)) (show Fr w R L by rw[<-T];exact F1.go (by exact bel));have H:=h_ J J.len hf hk;have o1:=aW (HL.out _ F1);have o2:=aW (HL.out _ f.u);clear F1 J hr hf hl N hk I;refine ent func57 rfl ntmps57 ?_;gi_wp2;clear o1 o2;gi_loopw[3,4] (fun v i wr=>Yp (α:=Int) w L (fun t=>(List.range n).map (qH r.ties t)) n v i wr) (fun _ i _=>n-(intOf i).toNat);case atStart=>unfold Yp;exact⟨0,_,_,bO _,rfl,rfl,Hd f.a,Hd f.u⟩
 case round=>
  unfold Yp at hrel;obtain⟨t,A,c,ht,rfl,rfl,O,D⟩:=hrel;have Z:=aW (HL.out _ D.out);by_cases ae:t<n
  ·obtain⟨s,rfl⟩:∃V,V=wr:=⟨_,rfl⟩;obtain⟨VB,ab⟩:=aC (s.alloc (.cells #[] 3));have RB:=Hd (show yg (α:=Int) 3 w s L (.slice (some ⟨s,0,none⟩) 0 0) 0 ((List.range 0).map (qH r.ties (t+1))) VB by rw[<-ab];exact yg.lit D.out _);have o5:=aW (HL.out _ RB.out.fr);gi_wp2;clear Z o5;gi_loopw[5,6] (fun v i wr=>RZ (α:=Int) 3 w s L (fun j=>(List.range j).map (qH r.ties (t+1))) n v i wr) (fun _ i _=>n-(intOf i).toNat);case atStart=>unfold RZ;exact⟨0,bO _,rfl,RB⟩
   case round=>
    unfold RZ at hrel;obtain⟨j,hj,rfl,l⟩:=hrel;have Z:=aW (HL.out _ l.out.fr);by_cases W:j<n
    ·obtain⟨x,hx⟩:=dW r.ties j (by rw[H.b];exact W);obtain⟨b,o,B,m',d',rfl,⟨p0,p1⟩,hks⟩:=(H.a.go l.out.fr.bl).n_ hx;have ac:=H.w x (aR hx);have ad:=hks.len;have F:=Hd (count_any (nm:=x.1) (KJ r.ties t) hks (O.out.go l.out.bb) (fun u P=>yh (qH r.ties t) P) (Vy r.ties t) (fun y hy h5=>by
      obtain⟨u,e,P⟩:=H.c x (aR hx) y hy h5;exact⟨u,e,by rw[<-H.b];exact P⟩) oE)
     rw[<-agm (t:=t) hx]at F;obtain⟨z,Q⟩:=aC (KJ r.ties (t+1) j);have aa:=Vy r.ties (t+1) j;rw[Q]at F aa;have HZ:=Hd Q;clear hx hks Q ac ad
     gi_wp2_with (first
      |(have g:=E;clear g;gi_at_builtin;refine cY rfl fun K S=>?_;have X:=E.a;refine aI _ _ _ rfl rfl rfl X (S _ _ ?_);clear S K X)
      |(refine Cl 110 F.out ?_;rintro e w3 ⟨rfl,U⟩;obtain⟨v',wA,r1,G⟩:=(l.out.go U).app (x:=((z:Nat):Int)) (cs:= [.int .i64 ((z:Nat):Int)]) underlying26 RY ⟨rfl,oV⟩ oE;have E:=Hd2 r1 G;have o4:=aW (HL.out _ G.fr);clear r1 G U)
      |fail)
     exact⟨by unfold RZ;exact⟨j+1,oE,by go_num,Hd (by have h:yg _ _ _ _ _ _ ((List.range j).map (qH r.ties (t+1))++ [((z:Nat):Int)]) _:=E.u;rw[show((z:Nat):Int)=qH r.ties (t+1) j by rw[qH,HZ.out],<-ou]at h;exact h)⟩,by simp[intOf];omega⟩
    ·obtain rfl:j=n:=oE;obtain⟨A',c',rfl,Y⟩:=l.out.sl oE;have f:=Hd2 Y l.out.fr;clear hj W l Y;gi_wp2;exact⟨by unfold Yp;exact⟨t+1,A',c',oE,by go_num,rfl,Hd f.a,Hd f.u⟩,by simp[intOf];omega⟩
  ·obtain rfl:t=n:=oE;have f:=Hd2 O.out D.out.bl;clear ht ae O D;gi_wp2;go_ret;exact⟨A,c,rfl,f.a,f.u⟩
def mZ(p:Prop)(w:World)(e:Ending)(w':World):Prop:=∃b,e=.returned (.bool b)/\(b=false↔p)/\Below w w w'
attribute [irreducible] mZ
theorem mZ.yes{w:World}{e:Ending}(h:e=.returned (.bool true))(hn:¬p)(hb:Below w w w'):mZ p w e w':=by unfold mZ;exact⟨true,h,⟨fun e=>(by cases e),fun h=>absurd h hn⟩,hb⟩
theorem mZ.no{w:World}{e:Ending}(h:e=.returned (.bool false))(hp:p)(hb:Below w w w'):mZ p w e w':=by unfold mZ;exact⟨false,h,⟨fun _=>hp,fun _=>rfl⟩,hb⟩
theorem mZ.of{w:World}{e:Ending}(h:mZ p w e w'):∃b,e=.returned (.bool b)/\(b=false↔p)/\Below w w w':=by unfold mZ at h;exact h
def Qr(at_:Int)(y:aU):Prop:=y.kind=5->y.n<at_
def LtC(x:aU):Prop:=∀{M:List Nat}{A:Option Addr}{m c:Nat}{at_:Int}{w:World},Sl aU w M A m c x.l->Calls prog 58 #[.agg #[.int .i64 x.kind,.string x.name,.int .i64 x.n,.int .i64 x.d,.slice A m c],.int .i64 at_] w (mZ (∀y,y∈iZ x->Qr at_ y) w)
theorem R_(x:aU):LtC x:=by
 induction x using iY with
 |_ x ih=>
 intro M A m c at_ w hs;obtain⟨k,s,n,d,l⟩:=x;simp only[aU.kind,aU.name,aU.n,aU.d,aU.l]at hs |-;refine wid ?_;have T:=hs.len;have ac:=hs.small;obtain⟨P,O⟩:=aC (∀y,y∈iZ (.mk k s n d l)->Qr at_ y);rw[O];obtain⟨W1,ab,F1⟩:=dR ((Fr.nil w).a w [.int .i64 k,.string s,.int .i64 n,.int .i64 d,.slice A m c] 66);have o1:=aW F1;have D:=Hd O;have HF:=Hd F1;have U:∀y,y∈l->LtC y:=ih;have I:=Hd2 U hs;have HL:=Hd T;clear F1 hs ih U T O;by_cases N:k=5
 ·subst N;by_cases S:at_<=n;·have hnd:decide (at_<=n)=true:=cw S;have V:=Hd S;refine ent func58 rfl ntmps58 ?_;gi_wp2;go_ret;exact mZ.yes (by first|rfl|simp[*]) (by rw[<-D.out];intro h;have E:=h _ (by rw[lW];exact cd) rfl;have h2:n<at_:=E;have:=V.out;omega) HF.out.bl
  have hnd:decide (at_<=n)=false:=cE S;have HN:=Hd (show n<at_ by omega);refine ent func58 rfl ntmps58 ?_;gi_wp2_with (first|(refine⟨bq,?_⟩))
  gi_loopw[5] (fun i wr=>∃j:Nat,j<=m/\i=.int .i64 j/\Hid (∀z,z∈l.take j->∀y,y∈iZ z->Qr at_ y)/\Hid (Fr w wr [(w, [.int .i64 5,.string s,.int .i64 n,.int .i64 d,.slice A m c])])) (fun i _=>m-(intOf i).toNat);case atStart=>exact⟨0,bO _,rfl,Hd oO,HF⟩
  case round=>
   obtain⟨j,R,rfl,Q,f⟩:=hrel;have Y:=aW f.out;by_cases G:j<m;·exact z_
   ·obtain rfl:j=m:=oE;have K:=Hd (show P by
     rw[<-D.out];refine o_ (fun _=>HN.out) (fun z q=>Q.out z ?_);rw[bL (by rw[HL.out];exact bh _)];exact q)
    clear R G;gi_wp2;go_ret;exact mZ.no rfl K.out f.out.bl
 have aa:(k==5)=false:=cU.2 N;refine ent func58 rfl ntmps58 ?_;gi_wp2_with (first|(refine⟨bq,?_⟩))
 gi_loopw[5] (fun i wr=>∃j:Nat,j<=m/\i=.int .i64 j/\Hid (∀z,z∈l.take j->∀y,y∈iZ z->Qr at_ y)/\Hid (Fr w wr [(w, [.int .i64 k,.string s,.int .i64 n,.int .i64 d,.slice A m c])])) (fun i _=>m-(intOf i).toNat);case atStart=>exact⟨0,bO _,rfl,Hd oO,HF⟩
 case round=>
  obtain⟨j,R,rfl,Q,f⟩:=hrel;have Y:=aW f.out;by_cases G:j<m;·exact z_
  ·obtain rfl:j=m:=oE;have K:=Hd (show P by
    rw[<-D.out];refine o_ (fun e=>absurd e N) (fun z q=>Q.out z ?_);rw[bL (by rw[HL.out];exact bh _)];exact q)
   clear R G;gi_wp2;go_ret;exact mZ.no rfl K.out f.out.bl
theorem bD.aiS{e:TypeId}{w:World}{base:Nat}{v:Value}{xs:List bK}(h:bD bK e w M base v n xs)(M':List Nat):bD bK e w M' base v n xs:=by obtain⟨cs,f,g⟩:=h.ex;refine⟨h.len,cs,f,fun k x j=>?_⟩;obtain⟨q,a,b⟩:=g k x j;obtain⟨rfl,l,o⟩:=rd_key a;exact⟨_,⟨[_],_,rfl,⟨rfl,l⟩, [_],_,rfl,rfl,⟨rfl,o⟩⟩,b⟩
theorem yg.ahC{α:Type} [kJ α] {e:TypeId}{w u wr:World}{k:Nat}{L:List (Nat×List Value)}{v:Value}{xs ys:List α}(h:yg e w u L v k xs wr)(ht:prog.underlying t=some (.slice e))(hi:iU e (Rep.sz α))(hy:Sl α wr (bP v++ []) A m c ys)(hn:k+m<=100000):
 ∃v' w',(Builtin.append_ #[t,t] t #[v,.slice A m c]).run prog wr=.ok v' w'/\yg e w u L v' (k+m) (xs++ys) w'/\Keeps (bP v) wr w':=by
 obtain⟨i,z,l,o,s,y,C⟩:=hi;have j:(k+m)*i.bytes<=140737488355328:=cD (gp hn C) oR;obtain⟨v',w',D,V,f,H⟩:=h.own.uy (ty:=t) h.bb.size ht l o s y hy j oE;exact⟨v',w',D,⟨V,h.fr.ZI f (fun q a=>⟨cD h.hW (h.own.lt a).1,fun b E g e=>by have F:=(h.own.lt a).1;have G:=h.hL b E g;omega⟩),h.bb.grown f h.bb.size (fun q a=>(h.own.lt a).1),h.hL,h.hW⟩,f.size,fun q a g=>f.block q a (fun e=>g (bJ.2 e.symm))⟩
def XeC(r:aS)(i:Nat):Prop:=∀{M M':List Nat}{s1 s2 s3 s4 s5 s6 s7:dK}{w:World},dG w M r s1 s2 s3 s4 s5 s6 s7->b_ M' w->Calls prog 59 #[.agg (aV r s1 s2 s3 s4 s5 s6 s7).toArray,.int .i64 (i:Int)] w fun e w'=>∃A m c,e=.returned (.slice A m c)/\Sl bK w' M' A m c (Jd r i)/\Below w w w'
def XwR(r:aS)(ks:List bK)(w u:World)(L:List (Nat×List Value))(n:Nat)(v i:Value)(wr:World):Prop:=∃(k:Nat) (v0:Value),k<=n/\v0=v/\i=.int .i64 k/\Hid (yg 113 w u L v0 (zf r (ks.take k)).length (zf r (ks.take k)) wr)
attribute [irreducible] XwR
theorem yg.nil{α:Type} [kJ α] {w w1:World}{L:List (Nat×List Value)}(h:Fr w w1 L)(e:TypeId):yg (α:=α) e w w1 L (.slice none 0 0) 0 [] w1:=⟨bD.nil _ _ _,h,bw _ _,h.lt,h.bl.size⟩
theorem Fj{rk:Nat->Nat}(T:T16 r rk)(i:Nat)(ih:∀j,rk j<rk i->j<r.ties.length->XeC r j)(hi:i<r.ties.length):XeC r i:=by
 intro M M' s1 s2 s3 s4 s5 s6 s7 w hr hM;refine wid ?_;obtain⟨Q,n,U⟩:=s4;have h4:Sl dA w M Q n U r.ties:=hr.ties;have am:=h4.len;obtain⟨t,S⟩:=dW r.ties i hi;have aA:i<n:=oE;have aB:n<=16:=by rw[<-am];exact T.few
 obtain⟨L,hL⟩:∃L:List (Nat×List Value), [(w.heap.size,aV r s1 s2 s3 ⟨Q,n,U⟩ s5 s6 s7)]=L:=⟨_,rfl⟩;obtain⟨W1,az,F1⟩:=dR ((Fr.nil w).a w (aV r s1 s2 s3 ⟨Q,n,U⟩ s5 s6 s7) 28);have HL:=Hd (show ∀V,Fr w V L->Fr w V [(w,aV r s1 s2 s3 ⟨Q,n,U⟩ s5 s6 s7)]from fun V h=>by rw[hL];exact h);have E:Fr w W1 L:=by rw[<-hL];exact F1
 clear F1;obtain⟨b,o,B,m,d,rfl,⟨p0,p1⟩,hks⟩:=(h4.go E.bl).n_ S;obtain⟨ks,N⟩:=aC t.2;rw[N]at hks;have aj:=hks.len;have aD:m<=32:=by have:=T.keys t (aR S);rw[N]at this;omega
 have ai:Jd r i=zf r ks:=by rw[acG T S,N];rfl
 have ar:=Hd ((HL.out _ E).mJ 0);have R0:=Hd (show yg (α:=bK) 113 w W1 L (.slice none 0 0) 0 [] W1 from yg.nil E _);have H:=oK hr S N hks aj;have O:=fB T ai (T.len i hi);have IH:=Hd ih;have HM:=Hd2 hM E.bl.size;have o1:=aW (HL.out _ E);clear E h4 hr S hks N aj hL ai ih hM T am;refine ent func59 rfl ntmps59 ?_;gi_wp2;clear o1;gi_loopw[5,7] (fun v i wr=>XwR r ks w W1 L m v i wr) (fun _ i _=>m-(intOf i).toNat);case atStart=>unfold XwR;exact⟨0,_,bO _,rfl,rfl,R0⟩
 case round=>
  unfold XwR at hrel;obtain⟨k,v,hk,rfl,rfl,f⟩:=hrel;obtain⟨V,rfl⟩:∃V,V=wr:=⟨_,rfl⟩;have o3:=aW (HL.out _ f.out.fr);have aa:(zf r (ks.take k)).length<=32:=by have h1:=Vk r ks k;have h2:=O.v;rw[O.b]at h2;omega
  by_cases al:k<m
  ·obtain⟨y,J⟩:=dW ks k (by rw[H.x];exact al);obtain⟨b3,ZU,rfl,ag,ap,aq⟩:=H.d.xQ J;have av:=bu W1 _ ag;have y0:=(a_ f.out.bb []).cell oO ag;have y1:=(a_ f.out.bb []).cell oO ap;have y2:=(a_ f.out.bb []).cell oO aq;clear ag ap aq;have D:=KI r J;obtain⟨yk,ys,yn⟩:=y;simp only at y0 y1 y2;by_cases W:yk=5
   ·subst W;obtain⟨u,rfl,hu,an⟩:=O.a.ref i t H.b (5,ys,yn) (by rw[H.c];exact aR J) rfl;simp only[lL,fp]at D;have l:∀q,q<W1.heap.size->q∉bP v:=fun q I hm=>by have:=(f.out.own.lt (bJ.1 hm)).1;omega
    have C:w.heap.size<W1.heap.size:=ar.out;obtain⟨wd,af⟩:=aC V.drew;have Z:Below V V wd:=by rw[<-af];exact pd.drew
    have au:=Hd (f.out.go Z);have HC:=Hd (IH.out u an hu (M:=M) (M':=bP v) (H.a.go (f.out.fr.bl.trans (Z.mono f.out.fr.bl.size))) (fun q I=>cf (f.out.own.lt (bJ.1 I)).2 Z.size));have s:=HL.out _ f.out.fr;have u0:=aF (l _ C) (s.aQ 0 0);have u1:=aF (l _ C) (s.aQ 0 1);have u2:=aF (l _ C) (s.aQ 0 2);have u3:=aF (l _ C) (s.aQ 0 3);have u4:=aF (l _ C) (s.aQ 0 4);have u5:=aF (l _ C) (s.aQ 0 5);have u6:=aF (l _ C) (s.aQ 0 6);have u7:=aF (l _ C) (s.aQ 0 7);have u8:=aF (l _ C) (s.aQ 0 8);have x2:=aF (l _ av) y2;have yT:=Hd af;have R:=fB D aa (O.a.len u hu);clear J D an Z s af l aa;gi_wp2;refine aP (bP v) 9 oF oF ?_;refine ay 0 ?_;refine ay 1 ?_;refine ay 2 ?_;refine ay 3 ?_;refine ay 4 ?_;refine ay 5 ?_;refine ay 6 ?_;rw[yT.out];refine eU 7 fun K G=>?_;gi_wp2;refine Cl 59 HC.out ?_;rintro e w2 ⟨A2,m2,c2,rfl,ae,ac⟩;refine G _ _ ⟨?_,?_⟩;clear G K;·exact a_ ac _
    refine lit ?_;have ak:=ae.len;obtain⟨v',wA,P,z,kA⟩:=(au.out.go ac).ahC (t:=110) underlying110 aaN (ae.less (fun q I=>by simpa using I)) (by have:=R.b;have:=R.v;omega);rw[<-R.a]at z;have F:=Hd2 P (show yg (α:=bK) 113 w W1 L v' (zf r (ks.take (k+1))).length (zf r (ks.take (k+1))) wA by
     have e:(zf r (ks.take (k+1))).length=(zf r (ks.take k)).length+m2:=by rw[R.a,cH,ak]
     rw[e];exact z)
    have o4:=aW (HL.out _ z.fr);clear z ae ak ac P;refine oQ 8 [] oF (dN oR rfl ?_ (fun K G=>?_) gU);·exact wy
    refine aI _ _ _ rfl rfl rfl F.a (G _ _ ⟨kA,?_⟩);clear G K;refine lit ?_;refine iq 1 ?_;refine jW fun K G K' ab=>?_;gi_wp2;refine dC _ ?_;simp only[cu];gi_wp2;exact⟨by unfold XwR;exact⟨k+1,_,oE,rfl,by go_num,Hd F.u⟩,by simp[intOf];omega⟩
   have ax:(yk==5)=false:=cU.2 W;rw[if_neg W]at D;obtain⟨b9,o9,aw,e9,ah,-⟩:=(H.d).get J;have ad:=(rd_key ah).2;obtain⟨v',wA,P,z⟩:=f.out.app (x:=(yk,ys,yn)) (cs:= [.int .i64 yk,.string ys,.int .i64 yn]) underlying110 aaN ⟨[_],_,rfl,⟨rfl,ad.1⟩, [_],_,rfl,rfl,⟨rfl,ad.2⟩⟩ oE;rw[<-D]at z;have F:=Hd2 P (show yg (α:=bK) 113 w W1 L v' (zf r (ks.take (k+1))).length (zf r (ks.take (k+1))) wA by
    have e:(zf r (ks.take (k+1))).length=(zf r (ks.take k)).length+1:=by rw[D];simp
    rw[e];exact z)
   have o4:=aW (HL.out _ z.fr);clear J D P z ah e9 ad W aa
   gi_wp2_with (first
    |(have g:=F;clear g;gi_at_builtin;refine cY rfl fun K ab=>?_;have X:=F.a;refine aI _ _ _ rfl rfl rfl X (ab _ _ ?_);clear ab K X)
    |fail)
   exact⟨by unfold XwR;exact⟨k+1,_,oE,rfl,by go_num,Hd F.u⟩,by simp[intOf];omega⟩
  ·obtain rfl:k=m:=oE;have Y:=f.out;rw[bL (by rw[H.x];exact bh _)]at Y aa;obtain⟨A9,c9,rfl,ao⟩:=(Y.own.aiS M').sl oE (fun q I=>cf (HM.a q I) HM.u);have HE:=Hd2 ao Y.fr.bl;clear hk al Y ao f;gi_wp2;go_ret;exact⟨A9,_,c9,rfl,by rw[O.b];exact HE.a,HE.u⟩
theorem yj{r:aS}{rk:Nat->Nat}(T:T16 r rk):∀(N i:Nat),rk i<N->i<r.ties.length->XeC r i
 |0,_,h,_=>by omega
 |N+1,i,h,hi=>Fj T i (fun j hj hl=>yj T N j oE hl) hi
end
