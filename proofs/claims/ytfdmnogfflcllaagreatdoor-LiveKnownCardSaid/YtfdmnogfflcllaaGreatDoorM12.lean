/- Lemmas. -/
import Derived.Sort.LoopGhostIn
import Derived.Test.YtfdmnogfflcllaaGreatDoorM11
set_option linter.unusedVariables false
set_option linter.unusedSimpArgs false
set_option maxRecDepth 100000
set_option maxHeartbeats 20000000
namespace Go.Proofs.YtfdmnogfflcllaaGreatDoor
open Go.Proofs.Tryz Go.RowKit Go.Shelf
theorem Nl{p:Prop}(h:p:=by go_ret;exact⟨by rw[E.out];rfl,H.out.bl.alloc H.out.bl.size _⟩):p:=h
variable {x:Rt}{n base s c m g:Nat}{w W W' V:World}{v a b v1 v2 d u0 u1 u2 u3:Value}{xs l1 l2:List Int}{M:List Nat}{z:Int}{q1 q2 q r p:Bool}{A B:Option Addr}{e f:TypeId}
section
attribute [local go_sem] cK
theorem adB(r:Nat):bits .and .u64 (r:Int) 1073741823=((r%BB:Nat):Int):=by
 have k:(BitVec.ofInt 64 1073741823).toNat=2^30-1:=oR;have h:(BitVec.ofInt 64 (r:Int) &&& BitVec.ofInt 64 1073741823).toNat=((r:Int)% ((2^64:Nat):Int)).toNat%2^30:=by rw[BitVec.toNat_and,BitVec.toNat_ofInt,k,Nat.and_two_pow_sub_one_eq_mod]
 show IntKind.u64.wrap ((BitVec.ofInt 64 (r:Int) &&& BitVec.ofInt 64 1073741823).toNat:Nat)=((r%1073741824:Nat):Int);rw[h,IntKind.wrap_u64];omega
theorem BL{x:Nat}(h:x<=18446744073709551615):(bC x).length<=3:=by
 by_cases i:x=0;·rw[i,bU];simp
 rw[iP i];by_cases j:x/BB=0;·rw[j,bU];simp
 rw[iP j];by_cases k:x/BB/BB=0;·rw[k,bU];simp
 rw[iP k];have D:x/BB/BB/BB=0:=by show x/1073741824/1073741824/1073741824=0;omega
 rw[D,bU];simp
theorem Tt{n:Int}(h:i64 n):(if n<0 then(IntKind.u64.wrap (-(IntKind.u64.wrap n)))else IntKind.u64.wrap n)=(n.natAbs:Int):=by unfold i64 at h;rw[IntKind.wrap_u64,IntKind.wrap_u64];split<;>omega
theorem adC(h:w.ownsRow base 3 1 v n (xs.map (Value.int .i64)))(hb:base<=w.heap.size)(hn:n<=1000000000)(g:Nat)(x:Int)
 (hc:w.cell? ⟨g,0,none⟩=some (.int .i64 x)):
 ∃v' w',(Builtin.append_ #[190,190] 190 #[v,.slice (some ⟨g,0,none⟩) 1 1]).run prog w=.ok v' w'/\w'.ownsRow base 3 1 v' (n+1) ((xs++ [x]).map (Value.int .i64))/\w.grownBy w' v.ownBlock/\(v'.ownBlock=v.ownBlock\/v'.ownBlock=some w.heap.size)/\∃gg cc,v'=.slice (some ⟨gg,0,none⟩) (n+1) cc:=by
 obtain⟨E,t,y,C,D⟩:=kO qo;obtain⟨v',w',l,k,o,_,K⟩:=l8 (P:=prog) w base 190 190 3 E (.int .i64 0) 1 8 underlying190 t y C D rfl oR v n _ h ⟨g,0,none⟩ 1 1 [.int .i64 x] rfl (by intro j u i;match j,i with|0,i=>cases i;exact hc) (by simp[Value.oneCell']) (by unfold maxLen;omega) oE hb;rw[eO];exact⟨v',w',l,k,o,K,ownsRow_succ k⟩
theorem WI(h:W.ownsRow base 3 1 v n (xs.map (Value.int .i64)))(hb:base<=W.heap.size)(hn:n<=1000000000)(x:Int):
 ∃v' W',(Builtin.append_ #[190,190] 190 #[v,.slice (some ⟨W,0,none⟩) 1 1]).run prog (W.alloc (.cells #[.int .i64 x] 3))=.ok v' W'/\W'.ownsRow base 3 1 v' (n+1) ((xs++ [x]).map (Value.int .i64))/\Below base W W'/\∃gg cc,v'=.slice (some ⟨gg,0,none⟩) (n+1) cc:=by
 obtain⟨v',W',j,l,o,u,t⟩:=adC (h.alloc (.cells #[.int .i64 x] 3)) oS hn W.heap.size x oX;exact⟨v',W',j,l,(((bw base W).alloc hb _).grown o oS (fun k i=>(h.lt k i).1)),t⟩
theorem Ih{n:Int}(hM:b_ M w)(hn:i64 n):
 Calls prog 133 #[.int .i64 n] w fun e w'=>∃u,e=.returned u/\ZV w' M u n/\Below w w w':=by
 refine wid ?_;have J:=Tt hn;have L:(bC n.natAbs).length<=3:=BL (by unfold i64 at hn;omega);obtain⟨x,hx⟩:=aC n.natAbs;have af:x<=9223372036854775808:=by unfold i64 at hn;omega
 rw[hx]at J L;have P:=fB L hM hx;clear L hM hx hn;by_cases E:n<0;all_goals(
 first
  |rw[if_pos E]at J
  |rw[if_neg E]at J
 refine ent func133 rfl ntmps133 ?_;gi_wp2;gi_loopw[3,4] (fun v u wr=>∃(k r:Nat) (out:List Nat),r<=x/\u=.int .u64 r/\Hid (bC x=out++bC r/\out.length=k)/\Hid (wr.ownsRow (w.heap.size+1) 3 1 v k ((ints out).map (Value.int .i64)))/\Below w w wr/\w.heap.size+1<=wr.heap.size/\wr.cell? ⟨w,0,none⟩=some (.bool false)/\wr.cell? ⟨w,1,none⟩=some (.slice none 0 0)/\wr.frozen? ⟨w,0,none⟩=false/\wr.frozen? ⟨w,1,none⟩=false) (fun _ u _=>(intOf u).toNat);case atStart=>have R:=k_ (base:=w.heap.size+1) (size:=1) (e:=3) (w.alloc (.cells #[.bool false,.slice none 0 0] 46)) #[] 0 oO (by simp[maxLen]) rfl;rw[show(w.alloc (.cells #[.bool false,.slice none 0 0] 46)).heap.size=w.heap.size+1 by simp]at R;exact⟨0,x, [],bh _,rfl,Hd2 (de _).symm rfl,R,by exact bel,oO,oX,oX,oX,oX⟩
 case round=>
  obtain⟨k,r,out,hr,rfl,i,D,hb,ad,G,H,f0,f1⟩:=hrel;by_cases ac:0<r
  ·have hk:k<=3:=by have:=P.a;rw[i.a,cH,i.u]at this;omega
   obtain⟨v',W',r1,N,o,gg,cc,rfl⟩:=WI D.out ad oE ((r:Int)% (BB:Int));rw[show ints out++ [(r:Int)% (BB:Int)]=ints (out++ [r%BB]) by simp[ints]]at N;have aa:bC x=(out++ [r%BB])++bC (r/BB)/\(out++ [r%BB]).length=k+1:=by refine⟨?_,by simp[i.u]⟩;rw[i.a,iP oE];simp
   have ab:r/BB<r:=Nat.div_lt_self ac rE;have JR:=Hd r1;have F:=fB N (hb.trans (o.mono oE)) aa;have e1:=adB r;have e2:(r:Int)/1073741824=((r/BB:Nat):Int):=by rw[BBi];exact(Int.natCast_ediv _ _).symm
   have Q:=Hd e2;have e3:IntKind.i64.wrap ((r:Int)% (BB:Int))=(r:Int)% (BB:Int):=by rw[show(r:Int)% (BB:Int)=((r%BB:Nat):Int)from(Int.natCast_emod _ _).symm];have:=jN r eX;have l:BB<=1073741824:=bh _;rw[bR];omega
   have ae:=o.size;have S:=(o.cell (p:=⟨w,0,none⟩) (eS _)).trans G;have T:=(o.cell (p:=⟨w,1,none⟩) (eS _)).trans H;have U:=(o.frozen (p:=⟨w,0,none⟩) (eS _)).trans f0;have Y:=(o.frozen (p:=⟨w,1,none⟩) (eS _)).trans f1;have y:=h_ S T U Y;clear S T U Y G H f0 f1;clear r1 N o aa i D
   gi_wp2_with (first
    |(gi_at_builtin;refine cY rfl fun K Z=>?_;refine aI _ _ _ rfl rfl rfl JR.out (Z _ _ ?_);clear Z K)
    |fail)
   exact⟨⟨k+1,r/BB,_,oE,by rw[<-Q.out];rfl,F.v,F.a,F.b,oE,y.a,y.b,y.c,y.w⟩,by have l:=Q.out;show((r:Int)/(BB:Int)).toNat<((r:Int)).toNat;rw[BBi]at l;rw[l,fp,fp];exact ab⟩
  ·obtain rfl:r=0:=oE;have hk:k<=3:=by have:=P.a;rw[i.a,cH,i.u]at this;omega
   have I:bC x=out:=by have:=i.a;rwa [bU,ef]at this
   have hg:Good out:=by rw[<-I];exact aO x
   obtain⟨O,C,rfl,X⟩:=Sl.BO D.out (fU hg) oE (M:=w::M) (by
    intro j t;rcases cB.1 t with rfl|t;·omega
    have:=P.b j t;omega)
   rw[<-I]at X;have HF:=Hd X;clear X D i I hg;gi_wp2;refine⟨rfl,.agg #[.bool (decide (n<0)),.slice O k C],by simp[results,go_sem,G,H,E],.agg #[.bool (decide (n<0)),.slice O k C],rfl,⟨O,k,C,rfl,?_⟩,?_⟩
   ·have h:=HF.out.keep ((((cF (w.heap.size::M) wr).setCell (p:=⟨w,0,none⟩) (.inl oO) (.bool (decide (n<0)))).setCell (p:=⟨w,1,none⟩) (.inl oO) (.slice O k C)));have l:=h.less (M':=M) (fun j t=>bz _ t);rw[show bG n=bC x from by unfold bG;rw[P.v]]
    first
     |exact l
     |(simp only[E,decide_true]at l;exact l)
   exact(hb.setCell (p:=⟨w,0,none⟩) pc _).setCell (p:=⟨w,1,none⟩) pc _)
theorem yF(x:Int)(w:World):Calls prog 92 #[.bool true,.int .i64 x] w fun e w'=>e=.returned (.tuple #[])/\w'=w:=by refine wid ?_;refine ent func92 rfl ntmps92 ?_;gi_wp2;go_end0;exact⟨rfl,rfl⟩
theorem WJ(z:Int)(w:World):Calls prog 48 #[.int .i64 z,.int .i64 0] w fun e w'=>e=.returned (.int .i64 z)/\w'=w:=by
 refine wid ?_;refine ent func48 rfl ntmps48 ?_;gi_wp2_with (refine Cl 92 (yF _ _) ?_;rintro e h ⟨rfl,rfl⟩)
 go_ret;exact⟨rfl,rfl⟩
theorem Ei(h:ZV w M v z):Calls prog 94 #[v,.int .i64 0] w fun e w'=>e=.returned v/\ZV w' M v z/\Below w w w':=by
 refine wid ?_;obtain⟨A,n,c,rfl,hs⟩:=h;have S:=Hd hs;clear hs;obtain⟨b,hb⟩:=aC (aG z);have HB:=Hd hb;rw[hb];clear hb;cases b;all_goals(
 refine ent func94 rfl ntmps94 ?_;gi_wp2_with (refine Cl 92 (yF _ _) ?_;rintro e i ⟨rfl,rfl⟩)
 exact⟨rfl,_,by simp[results,go_sem],rfl,⟨A,n,c,by rw[HB.out],S.out.go (by exact bel)⟩,by exact bel⟩)
theorem nM(h:ZV w M v z):CB 138 #[v] (.bool (decide (0<z))) w:=by
 refine wid ?_;obtain⟨A,n,c,rfl,hs⟩:=h;have j:=hs.eu;have l:decide (0<z)=(!aG z&&decide (0<n)):=by
  unfold aG;rw[<-j];by_cases R:z=0;·subst R;simp[bG,bU]
  have:(bG z).length≠0:=by intro e;have:=jO.1 (c_.1 e);omega
  by_cases i:z<0;·simp[i];omega
  simp[i];omega
 rw[l];clear hs j l;cases aG z;all_goals(
 by_cases k:n=0;all_goals(
 refine ent func138 rfl ntmps138 ?_;gi_wp2;go_ret;exact⟨by first|rfl|simp[k]|(simp;omega),by exact bel⟩))
theorem kT(p:Addr)(w:World):
 CallsDIn Fence.wide n prog 45 #[.pointer (some p)] .returning w fun e u' w'=>e=.returned (.tuple #[])/\u'=.returning/\w'=w:=by
 refine callsDIn_of_wpSIn func45 rfl trivial fun c₀ cs hu=>?_;apply wpSIn_seq;apply wpSIn_region;simp[wpOpsSIn,go_sem,recoverD,hu,ntmps45,Exit.thenS];refine wpSIn_of_wpIn rfl ?_;refine mU (Q:=fun e h w'=>e=.normal/\h.defers= []/\w'=w) ?_ ?_;rotate_left;·rintro e h w' ⟨rfl,i,rfl⟩;cases c₀;simp_all[bodyPostS,results,results45,i]
 clear hu;simp only[gH,gL,iG,fk,de,dx,eE,fl,eQ];gi_wp2
theorem tK{a b:Int}(fa:fits a=true)(fb:fits b=true):fits (Int.gcd a b:Int)=true:=by
 by_cases hb:b=0;·subst hb;rw[Int.gcd_zero_right];exact jZ oO fa
 have h:Int.gcd a b<=b.natAbs:=Nat.le_of_dvd oE (Nat.gcd_dvd_right _ _);exact jZ (show((Int.gcd a b:Int)).natAbs<=b.natAbs by simpa using h) fb
theorem yG(h:fits z=true)(hl:(bG z).length=n):n<=2048:=by have:=cW h;omega
theorem yH{va vb:Value}{a b:Int}(hM:b_ M w)(ha:ZV w M va a)(hb:ZV w M vb b)(fa:fits a=true)(fb:fits b=true):
 Calls prog 139 #[va,vb] w (ZR w M (Int.gcd a b)):=by
 refine wid ?_;obtain⟨A,n,c,rfl,hx⟩:=ha;obtain⟨B,m,d,rfl,J⟩:=hb;have D:=tK fa fb;have hn:=yG fa hx.eu;have hm:=yG fb J.eu;obtain⟨W1,ae,F1,Y,aa,T,P⟩:=Ig hM hx J;have X:=fB Y aa T;have F:=Hd F1;have HF:=Hd2 fa fb;have e0:=F1.a0;have e1:=F1.a1;have e2:=F1.b0;have e3:=F1.b1;have yU:=Hd P;have Z:=Hd2 (nJ D) (nK D);have Ny:=Hd D;clear hx J hM Y aa T F1 fa fb P D;refine qj func139 rfl ntmps139 ?_;gi_wp2_with (refine Cl 97 (iR _ 2 2 [a,b] _ yU.out (by simp[HF.a,HF.u])) ?_;rintro e K ⟨rfl,U⟩;have k:Below W1 W1 K:=((bw W1 W1).alloc pc (.cells #[.bool (aG a),.slice A n c,.bool (aG b),.slice B m d] 46)).trans (U.mono oO);have o:=F.out.go k;have v0:=ah o.a0;have v1:=ah o.a1;have v2:=ah o.b0;have v3:=ah o.b1;have h:=Hd2 o k;clear U k o)
 refine ak [] [0,1,2,3,4,5] oF oF ?_;refine eH ?_;refine aK ?_;refine lit ?_;gi_wp2;have G3:=h_ (show F4 w K.drew (aG a) (aG b) (.slice A n c) (.slice B m d)from⟨h.a.a0,h.a.a1,h.a.b0,h.a.b1,h.a.x0,h.a.x1,h.a.e0,h.a.f0,h.a.f1,h.a.fe,h.a.bl.drew,h.a.sz⟩) ((X.a.go h.u).keep (cF _ _).drew) ((X.b.go h.u).keep (cF _ _).drew) (X.v.le (w':=K.drew) h.u.size);clear v0 v1 v2 v3 e0 e1 e2 e3;gi_loopg[6,7] (b.natAbs) (fun y s6 s7 wr=>∃(x:Nat) (E:Option Addr) (n' H:Nat) (G:Option Addr) (l I:Nat),s6=.slice E n' H/\s7=.slice G l I/\n'<=2048/\l<=2048/\Hid (Nat.gcd x y=Int.gcd a b/\F4 w wr (aG a) (aG b) (.slice A n c) (.slice B m d)/\Sl Int wr ((w.heap.size+1+1)::(w.heap.size+1+1+1)::M) E n' H (ints (bC x))/\Sl Int wr ((w.heap.size+1+1)::(w.heap.size+1+1+1)::M) G l I (ints (bC y))/\b_ ((w.heap.size+1+1)::(w.heap.size+1+1+1)::M) wr));case atStart=>exact⟨a.natAbs,A,n,c,B,m,d,rfl,rfl,hn,hm,rfl,G3.out⟩
 case round=>
  obtain⟨x,E,n',H,G,l,I,rfl,rfl,af,ac,j⟩:=hrel;have t:=j.d.eu;by_cases R:l=0
  ·subst R;have C:gk=0:=jO.1 (c_.1 t);subst C;have hg:gJ false x=(Int.gcd a b:Int):=by
    have:=j.a;rw[Nat.gcd_zero_right]at this;rw[<-this];rfl
   clear t;gi_wp2_with (refine Cl 140 (zB (v:=x) j.x j.c hg Ny.out) ?_;rintro e w3 ⟨q,L,n4,Q,rfl,N,k⟩;have i:=Hd2 (j.b.go k) N;have c0:=i.a.x0;have c1:=i.a.x1;have c2:=i.a.e0;have d0:=i.a.f0;have d1:=i.a.f1;have d2:=i.a.fe;clear k N)
   obtain⟨wF,ad,r0,r1,r2,WH,bF⟩:=i.a.fin i.u;refine eM (f:=96) (args:=#[.pointer (some ⟨w+1+1+1,0,none⟩)]) oO oO oX (fun _ _=>bq) ?_;rw[ad];refine(iJ ⟨w+1+1+1,0,none⟩ _).mono ?_;rintro e u' aj ⟨rfl,rfl,rfl⟩;refine⟨.tuple #[.agg #[.bool q,.slice L n4 Q],.int .i64 0],?_,.agg #[.bool q,.slice L n4 Q],by rw[Z.a],by rw[Z.u];exact WH,bF⟩;simp[results,results139,go_sem,r0,r1,r2]
  ·have C:0<gk:=by
     rcases eh gk with e|e;·subst e;rw[bU]at t;exact absurd t.symm R
     ·exact e
   have ag:0<l:=oE;have ab:=Hd t;clear t;gi_wp2_with (refine Cl 185 (L8 (x:=x) (y:=gk) j.x j.c j.d oE C) ?_;rintro e w3 ⟨O,q,cO,O2,q2,Z7,rfl,h1,S,k⟩;have i:=Hd2 S k;clear h1 S k)
   gi_roundg (x%gk);case measure=>exact jN _ C
   case rel=>
    have ai:q2<=l:=by rw[<-i.a.eu,<-ab.out];exact kR (cX (jN _ C))
    exact⟨gk,_,_,_,_,_,_,rfl,rfl,ac,oE,⟨by rw[LJ];exact j.a,j.b.go i.u,j.d.go i.u,i.a,j.x.le i.u.size⟩⟩
def QW(w:World)(M:List Nat)(v:Value)(r:Rt):Prop:=∃A n c B m d,v=.agg #[.bool (aG r.num),.slice A n c,.bool (aG r.den),.slice B m d]/\Sl Int w M A n c (ints (bG r.num))/\Sl Int w M B m d (ints (bG r.den))
theorem QW.go{w w':World}{M:List Nat}{v:Value}{r:Rt}(h:QW w M v r)(hb:Below w w w'):QW w' M v r:=by obtain⟨A,n,c,B,m,d,rfl,i,j⟩:=h;exact⟨A,n,c,B,m,d,rfl,i.go hb,j.go hb⟩
structure F6(w W:World)(q1 q2:Bool)(v1 v2:Value):Prop where
 a0:W.cell? ⟨w,0,none⟩=some (.bool q1)
 a1:W.cell? ⟨w,1,none⟩=some v1
 a2:W.cell? ⟨w,2,none⟩=some (.bool q2)
 a3:W.cell? ⟨w,3,none⟩=some v2
 b0:W.cell? ⟨w+1,0,none⟩=some (.bool false)
 b1:W.cell? ⟨w+1,1,none⟩=some (.slice none 0 0)
 b2:W.cell? ⟨w+1,2,none⟩=some (.bool false)
 b3:W.cell? ⟨w+1,3,none⟩=some (.slice none 0 0)
 f0:W.frozen? ⟨w+1,0,none⟩=false
 f1:W.frozen? ⟨w+1,1,none⟩=false
 f2:W.frozen? ⟨w+1,2,none⟩=false
 f3:W.frozen? ⟨w+1,3,none⟩=false
 bl:Below w w W
 sz:w.heap.size+2<=W.heap.size
theorem F6.go(h:F6 w W q1 q2 v1 v2)(hb:Below W W W'):F6 w W' q1 q2 v1 v2:=by have hs:=h.sz;have c:∀(k o:Nat) (u:Value),k<w.heap.size+2->W.cell? ⟨k,o,none⟩=some u->W'.cell? ⟨k,o,none⟩=some u:=fun k o u j i=>(hb.cell (p:=⟨k,o,none⟩) (show k<_ by omega)).trans i;have f:∀(k o:Nat),k<w.heap.size+2->W.frozen? ⟨k,o,none⟩=false->W'.frozen? ⟨k,o,none⟩=false:=fun k o j i=>(hb.frozen (p:=⟨k,o,none⟩) (show k<_ by omega)).trans i;exact⟨c _ _ _ oE h.a0,c _ _ _ oE h.a1,c _ _ _ oE h.a2,c _ _ _ oE h.a3,c _ _ _ oE h.b0,c _ _ _ oE h.b1,c _ _ _ oE h.b2,c _ _ _ oE h.b3,f _ _ oE h.f0,f _ _ oE h.f1,f _ _ oE h.f2,f _ _ oE h.f3,h.bl.trans (hb.mono h.bl.size),by have:=hb.size;omega⟩
theorem F6.start(w:World)(q1 q2:Bool)(v1 v2:Value):
 F6 w ((w.alloc (.cells #[.bool q1,v1,.bool q2,v2] 187)).alloc (.cells #[.bool false,.slice none 0 0,.bool false,.slice none 0 0] 48)) q1 q2 v1 v2:=
 ⟨oX,oX,oX,oX,oX,oX,oX,oX,oX,oX,oX,oX,by exact bel,oO⟩
theorem nN{b:Nat}{d:Nat}(h0:V.cell? ⟨b,0,none⟩=some u0)(h1:V.cell? ⟨b,1,none⟩=some u1)(h2:V.cell? ⟨b,2,none⟩=some u2)(h3:V.cell? ⟨b,3,none⟩=some u3)
 (hs:Sl Int V (b::M) A n c (ints (bG x.num))) (ht:Sl Int V (b::M) B m d (ints (bG x.den))) (hq:aG x.num=q) (hr:aG x.den=r) (hb:Below s w V) (hsb:s<=b):
 ∃wF,(((V.setCell ⟨b,0,none⟩ (.bool q)).setCell ⟨b,1,none⟩ (.slice A n c)).setCell ⟨b,2,none⟩ (.bool r)).setCell ⟨b,3,none⟩ (.slice B m d)=wF/\
  wF.cell? ⟨b,0,none⟩=some (.bool q)/\wF.cell? ⟨b,1,none⟩=some (.slice A n c)/\wF.cell? ⟨b,2,none⟩=some (.bool r)/\wF.cell? ⟨b,3,none⟩=some (.slice B m d)/\
  QW wF M (.agg #[.bool q,.slice A n c,.bool r,.slice B m d]) x/\Below s w wF:=by
 have i:=(((((cF (b::M) V).setCell (p:=⟨b,0,none⟩) (.inl oO) (.bool q)).setCell (p:=⟨b,1,none⟩) (.inl oO) (.slice A n c)).setCell (p:=⟨b,2,none⟩) (.inl oO) (.bool r)).setCell (p:=⟨b,3,none⟩) (.inl oO) (.slice B m d));refine⟨_,rfl,?_,?_,?_,?_,⟨A,n,c,B,m,d,by rw[hq,hr],(hs.keep i).less (fun k h=>bz _ h),(ht.keep i).less (fun k h=>bz _ h)⟩,?_⟩;·simp[go_sem,h0,h1,h2,h3]
 ·simp[go_sem,h0,h1,h2,h3]
 ·simp[go_sem,h0,h1,h2,h3]
 ·simp[go_sem,h0,h1,h2,h3]
 ·exact(((hb.setCell (p:=⟨b,0,none⟩) hsb _).setCell (p:=⟨b,1,none⟩) hsb _).setCell (p:=⟨b,2,none⟩) hsb _).setCell (p:=⟨b,3,none⟩) hsb _
theorem JA(hl:(bG z).length=n):aG (-z)=(!aG z&&decide (0<n)):=by
 subst hl;unfold aG;by_cases R:z=0;·subst R;simp[bG,bU]
 have:(bG z).length≠0:=by intro e;have:=jO.1 (c_.1 e);omega
 by_cases h:z<0;·simp[h];omega
 simp[h];omega
theorem tN(z:Int):bG (-z)=bG z:=by unfold bG;rw[Int.natAbs_neg]
theorem ac_{n:Int}(hg:(g:Int)∣n)(h0:0<g):aG (n/(g:Int))=aG n:=by
 obtain⟨a,rfl⟩:=hg;rw[Int.mul_ediv_cancel_left _ oE];unfold aG;by_cases h:a<0;·have:=Int.mul_neg_of_pos_of_neg (show(0:Int)<g by omega) h;simp[h,this]
 have:=mN (show(0:Int)<=g by omega) (show 0<=a by omega);simp[h];omega
theorem QH{n:Int}(hg:(g:Int)∣n):n.natAbs% (g:Int).natAbs=0:=by rw[Int.natAbs_natCast];exact Nat.mod_eq_zero_of_dvd (Int.natAbs_dvd_natAbs.2 hg)
theorem ahR{c:Value}(h:(w.alloc (.cells #[a,b] e)).alloc (.cells #[c,d] f)=W):W.cell? ⟨w,0,none⟩=some a:=by rw[<-h];simp[go_sem]
theorem ahS{c:Value}(h:(w.alloc (.cells #[a,b] e)).alloc (.cells #[c,d] f)=W):W.cell? ⟨w,1,none⟩=some b:=by rw[<-h];simp[go_sem]
theorem ahT{c:Value}(h:(w.alloc (.cells #[a,b] e)).alloc (.cells #[c,d] f)=W):W.frozen? ⟨w,0,none⟩=false:=by rw[<-h];simp[go_sem]
theorem ahU{c:Value}(h:(w.alloc (.cells #[a,b] e)).alloc (.cells #[c,d] f)=W):W.frozen? ⟨w,1,none⟩=false:=by rw[<-h];simp[go_sem]
theorem ahV{p:Prop}(h:p:=by
 refine ent func136 rfl ntmps136 ?_
 gi_wp2_with (first
  |(refine⟨bq,?_⟩;gi_at_call 183;have g:=j.out;clear g;have aj:=(((L.u.less (M':=(w.heap.size+1)::M) (fun k H=>bz _ H)).more (b:=T) j.c.size).keep (a_ (j.c.trans (j.w.mono j.c.size)) _));refine Cn (L9 (a:=d) (b:=(g:Int)) (HB.out U T.heap.size j.a.bl j.a.sz (by rw[<-C];simp;omega)) (HN.u U T.heap.size j.a.bl (by have:=j.c.size;have:=L.a.sz;omega)) ⟨S,ng,cg,by rw[HY.c],aj⟩ HF.u HY.d HGP.out HY.b) ?_;rintro e i ⟨u6,v6,rfl,⟨R,n6,c6,rfl,ad⟩,⟨A7,n7,c7,rfl,hs7⟩,l⟩;rw[HZ.u,show aG 0=false from rfl];have K:=j.a.go l;have E:T.heap.size<U.heap.size:=by rw[<-C];simp;omega
    first
     |(have z:_=false:=HZ.u;clear z;obtain⟨y,O⟩:=aC ((i.alloc (.cells #[.bool false,.slice R n6 c6] 46)).alloc (.cells #[.bool false,.slice A7 n7 c7] 46)))
     |(obtain⟨y,O⟩:=aC ((i.alloc (.cells #[.bool true,.slice R n6 c6] 46)).alloc (.cells #[.bool false,.slice A7 n7 c7] 46)))
    have o:Below i i y:=by rw[<-O];exact bel
    have F7:=K.go o;have hnd:T.heap.size<i.heap.size:=by have:=l.size;omega
    have m0:=(o.cell (p:=⟨T,0,none⟩) hnd).trans ((l.cell (p:=⟨T,0,none⟩) E).trans N0);have m1:=(o.cell (p:=⟨T,1,none⟩) hnd).trans ((l.cell (p:=⟨T,1,none⟩) E).trans N1);have m2:=(o.frozen (p:=⟨T,0,none⟩) hnd).trans ((l.frozen (p:=⟨T,0,none⟩) E).trans N2);have m3:=(o.frozen (p:=⟨T,1,none⟩) hnd).trans ((l.frozen (p:=⟨T,1,none⟩) E).trans N3);have l0:=ahR O;have l1:=ahS O;have l2:=ahT O;have l3:=ahU O;have r0:=F7.b0;have r1:=F7.b1;have r2:=F7.b2;have r3:=F7.b3;have x0:=F7.f0;have x1:=F7.f1;have x2:=F7.f2;have x3:=F7.f3;have ah:w.heap.size+1<T.heap.size:=by have:=L.a.sz;have:=j.c.size;omega
    have ar:¬T.heap.size=i.heap.size:=oE;have au:¬i.heap.size=T.heap.size:=oE;have av:¬T.heap.size=w.heap.size+1:=oE;have aw:¬w.heap.size+1=T.heap.size:=oE;have ax:¬i.heap.size=w.heap.size+1:=oE;have ay:¬w.heap.size+1=i.heap.size:=oE;have G6:=Hd7 K ad l E o hnd ah;clear o F7 hnd ah;clear ad hs7 l K E aj)
  |(refine⟨bq,?_⟩;gi_at_call 183;have g:=Y.out;clear g;refine Cn (L9 (a:=n) (b:=(g:Int)) (HB.out N (w.heap.size+1) Y.a.bl Y.a.sz (by have:=Y.a.sz;omega)) (HN.a N (w.heap.size+1) Y.a.bl oE) ⟨S,ng,cg,by rw[HY.c],(L.u.go Y.b).go Y.v⟩ HF.a HY.d HGP.out HY.a) ?_;rintro e T ⟨u4,v4,rfl,⟨Q,G,Z,rfl,am⟩,⟨A5,n5,c5,rfl,hs5⟩,hb4⟩;rw[HZ.a,show aG 0=false from rfl];have F4:=Y.a.go hb4
    first
     |(have z:_=false:=HZ.a;clear z;obtain⟨U,C⟩:=aC ((T.alloc (.cells #[.bool false,.slice Q G Z] 46)).alloc (.cells #[.bool false,.slice A5 n5 c5] 46)))
     |(obtain⟨U,C⟩:=aC ((T.alloc (.cells #[.bool true,.slice Q G Z] 46)).alloc (.cells #[.bool false,.slice A5 n5 c5] 46)))
    have aa:Below T T U:=by rw[<-C];exact bel
    have F5:=F4.go aa;have s3:=Y.v.size;have ag:J.heap.size<N.heap.size:=by rw[<-ac];simp
    have az:=(aa.cell (p:=⟨J,0,none⟩) (by have:=hb4.size;show J.heap.size<_;omega)).trans ((hb4.cell (p:=⟨J,0,none⟩) ag).trans g0);have aA:=(aa.cell (p:=⟨J,1,none⟩) (by have:=hb4.size;show J.heap.size<_;omega)).trans ((hb4.cell (p:=⟨J,1,none⟩) ag).trans g1);have p0:=F5.a0;have p1:=F5.a1;have p2:=F5.a2;have p3:=F5.a3;have N0:=ahR C;have N1:=ahS C;have N2:=ahT C;have N3:=ahU C;have j:=h_ F5 am ((Y.b.trans (Y.v.mono Y.b.size)).trans (hb4.mono (by have:=Y.b.size;omega))) aa;clear am hs5 hb4 F4 F5 aa s3 ag)
  |(refine Cl 94 (Ei (z:=(g:Int)) ⟨S,ng,cg,by rw[HY.c],L.u⟩) ?_;rintro e J ⟨rfl,-,af⟩;have F3:=L.a.go af;obtain⟨N,ac⟩:=aC (J.alloc (.cells #[.bool false,.slice S ng cg] 46));have ae:Below J J N:=by rw[<-ac];exact bel
    have I:=F3.go ae;have g0:N.cell? ⟨J,0,none⟩=some (.bool false):=by rw[<-ac];simp[go_sem]
    have g1:N.cell? ⟨J,1,none⟩=some (.slice S ng cg):=by rw[<-ac];simp[go_sem]
    have u0:=I.a0;have u1:=I.a1;have u2:=I.a2;have u3:=I.a3;have Y:=fB I af ae;clear af F3 ae I)
  |(refine Cl 139 (yH (a:=n) (b:=d) (HB.out W1 (w.heap.size+1) F.out.bl F.out.sz (by have:=F.out.sz;omega)) (HN.a W1 _ F.out.bl oE) (HN.u W1 _ F.out.bl oE) HF.a HF.u) ?_;rintro e w2 ⟨u2,rfl,an,ak⟩;rw[HGE.out,HG.a];rw[HGE.out,HG.u]at an;obtain⟨S,ng,cg,rfl,al⟩:=an;rw[HY.c];have L:=Hd2 (F.out.go ak) al;clear al ak)
  |fail)
 obtain⟨K,ad,l,E,o,hnd,ah⟩:=G6.out;have b7:Below w w y:=K.bl.trans (o.mono K.bl.size);have ap:Below T T i:=j.w.trans (l.mono (cX E));have aq:=j.b.eu;have ao:Keeps (i.heap.size::T.heap.size::(w.heap.size+1)::M) i y:=a_ o _
 have fin:∀(V:World) (x:Rt) (q:Bool),Keeps (i.heap.size::T.heap.size::(w.heap.size+1)::M) i V->Below w w V->(V.cell? ⟨w+1,0,none⟩=some (.bool false)/\V.cell? ⟨w+1,1,none⟩=some (.slice none 0 0)/\V.cell? ⟨w+1,2,none⟩=some (.bool false)/\V.cell? ⟨w+1,3,none⟩=some (.slice none 0 0))->
  eP n d=x->aG x.num=q->aG x.den=false->bG x.num=bG (n/(g:Int))->bG x.den=bG (d/(g:Int))->
  ∃t,(((V.setCell ⟨w+1,0,none⟩ (.bool q)).setCell ⟨w+1,1,none⟩ (.slice Q G Z)).setCell ⟨w+1,2,none⟩ (.bool false)).setCell ⟨w+1,3,none⟩ (.slice R n6 c6)=t/\
   t.cell? ⟨w+1,0,none⟩=some (.bool q)/\t.cell? ⟨w+1,1,none⟩=some (.slice Q G Z)/\t.cell? ⟨w+1,2,none⟩=some (.bool false)/\t.cell? ⟨w+1,3,none⟩=some (.slice R n6 c6)/\
   QW t M (.agg #[.bool q,.slice Q G Z,.bool false,.slice R n6 c6]) (eP n d)/\Below w w t:=by
  intro V x q kV bV ⟨v0,v1,v2,v3⟩ hx sg1 sg2 mg1 mg2;have hA:=(((((j.b.less (M':=(w.heap.size+1)::M) (fun k H=>bz _ H)).more (b:=T) pc).keep (a_ ap _)).more (b:=i) pc).keep kV).less (M':=(w.heap.size+1)::M) (fun k H=>bz _ (bz _ H));have hB:=((ad.more (b:=i) pc).keep kV).less (M':=(w.heap.size+1)::M) (fun k H=>bz _ (bz _ H));rw[<-mg1]at hA;rw[<-mg2]at hB;rw[hx];exact nN v0 v1 v2 v3 hA hB sg1 sg2 bV (iH _)
 have ai:eP n d=if d/(g:Int)<0 then⟨-(n/(g:Int)),-(d/(g:Int))⟩else⟨n/(g:Int),d/(g:Int)⟩:=HY.x
 have bN:∀x,Below w w ((y.setCell ⟨i,0,none⟩ (.bool false)).setCell ⟨T,0,none⟩ (.bool x)):=fun x=>(b7.setCell (p:=⟨i,0,none⟩) oS _).setCell (p:=⟨T,0,none⟩) oS _;have kN:∀x,Keeps (i.heap.size::T.heap.size::(w.heap.size+1)::M) i ((y.setCell ⟨i,0,none⟩ (.bool false)).setCell ⟨T,0,none⟩ (.bool x)):=fun x=>(ao.setCell (p:=⟨i,0,none⟩) (.inl oO) _).setCell (p:=⟨T,0,none⟩) (.inl oO) _;have D:∀x k v,k<4->y.cell? ⟨w+1,k,none⟩=some v->((y.setCell ⟨i,0,none⟩ (.bool false)).setCell ⟨T,0,none⟩ (.bool x)).cell? ⟨w+1,k,none⟩=some v:=fun x k v _ h=>by simp[go_sem,h,ar,au,av,aw,ax,ay]
 first
  |(have z:_=false:=HZ.u;have P:=z;unfold aG at P;obtain⟨t,ab,t0,t1,t2,t3,hQ,X⟩:=fin y _ _ ao b7 ⟨r0,r1,r2,r3⟩ (ai.trans (if_neg (fW P))) HZ.a z rfl rfl;rw[ab];exact⟨rfl,_,by simp[results,go_sem,t0,t1,t2,t3];rfl,_,rfl,by exact hQ,X⟩)
  |(have z:_=true:=HZ.u;have P:=z;unfold aG at P;have sg:∀q,(!aG (n/(g:Int))&&decide (0<G))=q->aG (-(n/(g:Int)))=q:=fun q hq=>by rw[JA aq];exact hq
    have sd:aG (-(d/(g:Int)))=false:=by rw[JA rfl,z];rfl
    first
     |(have z1:_=false:=HZ.a;obtain⟨t,ab,t0,t1,t2,t3,hQ,X⟩:=fin _ _ (decide (0<G)) (kN (decide (0<G))) (bN _) ⟨D _ 0 _ oE r0,D _ 1 _ oE r1,D _ 2 _ oE r2,D _ 3 _ oE r3⟩ (ai.trans (if_pos (cW P))) (sg _ (by rw[z1];rfl)) sd (tN _) (tN _);rw[ab];exact⟨rfl,_,by simp[results,go_sem,t0,t1,t2,t3];rfl,_,rfl,by exact hQ,X⟩)
     |(have z1:_=true:=HZ.a;obtain⟨t,ab,t0,t1,t2,t3,hQ,X⟩:=fin _ _ false (kN false) (bN _) ⟨D _ 0 _ oE r0,D _ 1 _ oE r1,D _ 2 _ oE r2,D _ 3 _ oE r3⟩ (ai.trans (if_pos (cW P))) (sg _ (by rw[z1];rfl)) sd (tN _) (tN _);rw[ab];exact⟨rfl,_,by simp[results,go_sem,t0,t1,t2,t3];rfl,_,rfl,by exact hQ,X⟩))):p:=h
theorem Ej{k1 c1 k2 c2:Nat}{n d:Int}(hM:b_ M w)(hx:Sl Int w M A k1 c1 (ints (bG n)))(hy:Sl Int w M B k2 c2 (ints (bG d)))(fn:fits n=true)(fd:fits d=true)(h0:d≠0):
 Calls prog 136 #[.agg #[.bool (aG n),.slice A k1 c1,.bool (aG d),.slice B k2 c2]] w fun e w'=>∃u,e=.returned u/\QW w' M u (eP n d)/\Below w w w':=by
 refine wid ?_;have t:0<Int.gcd n d:=Int.gcd_pos_iff.2 (.inr h0);have y:(Int.gcd n d:Int)∣n:=Int.gcd_dvd_left ..;have C:(Int.gcd n d:Int)∣d:=Int.gcd_dvd_right ..;have D:=ac_ y t;have E:=ac_ C t;have K:=QH y;have L:=QH C;have N:aG (Int.gcd n d:Int)=false:=cE oE;have l:=tK fn fd;have I:eP n d=if d/(Int.gcd n d:Int)<0 then⟨-(n/(Int.gcd n d:Int)),-(d/(Int.gcd n d:Int))⟩else⟨n/(Int.gcd n d:Int),d/(Int.gcd n d:Int)⟩:=rfl
 generalize hge:Int.gcd n d=g at*
 have HGE:=Hd hge;have HG:=Hd2 (nJ l) (nK l);have HY:=oK K L N l I;have HGP:=Hd (show(0:Int)<(g:Int) by omega);have HF:=Hd2 fn fd;obtain⟨q1,i⟩:=aC (aG n);obtain⟨q2,j⟩:=aC (aG d);rw[i]at D;rw[j]at E;rw[i,j];have HZ:=Hd2 D E;have X:=oK hx hy hM i j;obtain⟨W1,O⟩:=aC ((w.alloc (.cells #[.bool q1,.slice A k1 c1,.bool q2,.slice B k2 c2] 187)).alloc (.cells #[.bool false,.slice none 0 0,.bool false,.slice none 0 0] 48));have F1:F6 w W1 q1 q2 (.slice A k1 c1) (.slice B k2 c2):=by rw[<-O];exact F6.start w _ _ _ _
 have F:=Hd F1;have P:=F1.a0;have Q:=F1.a1;have R:=F1.a2;have S:=F1.a3;have J:∀(W:World) (b:Nat),Below w w W->w.heap.size<=b->ZV W (b::(w.heap.size+1)::M) (.agg #[.bool q1,.slice A k1 c1]) n:=fun W b hb h=>⟨A,k1,c1,by rw[i],(((hx.more (b:=w+1) oE).more (b:=b) h).keep (a_ hb _))⟩;have H:∀(W:World) (b:Nat),Below w w W->w.heap.size<=b->ZV W (b::(w.heap.size+1)::M) (.agg #[.bool q2,.slice B k2 c2]) d:=fun W b hb h=>⟨B,k2,c2,by rw[j],(((hy.more (b:=w+1) oE).more (b:=b) h).keep (a_ hb _))⟩;have HN:=Hd2 J H;have G:∀(W:World) (b:Nat),Below w w W->w.heap.size+2<=W.heap.size->b<W.heap.size->b_ (b::(w.heap.size+1)::M) W:=by
  intro W b hb hs h k o;simp only[cB]at o;rcases o with rfl|rfl|o;·exact h
  ·omega
  have:=hM k o;omega
 have HB:=Hd G;clear hx hy hM F1 fn fd i j l D E N K L I y C t J H G hge;clear h0;cases q1<;>cases q2<;>exact ahV
structure Bx(w W:World)(q1 q2:Bool)(v1 v2:Value):Prop where
 a0:W.cell? ⟨w,0,none⟩=some (.bool q1)
 a1:W.cell? ⟨w,1,none⟩=some v1
 a2:W.cell? ⟨w,2,none⟩=some (.bool q2)
 a3:W.cell? ⟨w,3,none⟩=some v2
 bl:Below w w W
 sz:w.heap.size+1<=W.heap.size
theorem Bx.go(h:Bx w W q1 q2 v1 v2)(hb:Below W W W'):Bx w W' q1 q2 v1 v2:=by have hs:=h.sz;have c:∀(o:Nat) (u:Value),W.cell? ⟨w,o,none⟩=some u->W'.cell? ⟨w,o,none⟩=some u:=fun o u i=>(hb.cell (p:=⟨w,o,none⟩) (show w.heap.size<_ by omega)).trans i;exact⟨c _ _ h.a0,c _ _ h.a1,c _ _ h.a2,c _ _ h.a3,h.bl.trans (hb.mono h.bl.size),by have:=hb.size;omega⟩
theorem Bx.start(w:World)(q1 q2:Bool)(v1 v2:Value):Bx w (w.alloc (.cells #[.bool q1,v1,.bool q2,v2] 48)) q1 q2 v1 v2:=⟨oX,oX,oX,oX,by exact bel,oO⟩
def qM(b:Bool):Int:=if b then 0 else 100
theorem QI(h:Sl Int w M A n c (ints (bC g)))(h1:n=1):∃(b o d:Nat),A=some ⟨b,o,none⟩/\w.cell? ⟨b,o,none⟩=some (.int .i64 (d:Int))/\d=g:=by
 obtain⟨b,o,d,rfl,I,-,i,-⟩:=h.mG (aO g) (k:=0) oE;have j:=h.eu;rw[h1]at j;refine⟨b,o,d,rfl,I,?_⟩;have e:bC g= [d]:=by
  match hg:bC g,j,i with
  | [x],_,i=>exact gM (fun y=> [y]) (eW i)
 rw[<-bI g,e];simp[val]
theorem Em{d:Nat}(hM:b_ M w)(hx:Sl Int w M A n c l1)(hy:Sl Int w M B m d l2):
 CB 93 #[.agg #[.bool p,.slice A n c,.bool q,.slice B m d]] (.int .i64 (qM (dF ((p,l1),(q,l2))))) w:=by
 refine wid ?_;obtain⟨W1,ak⟩:=aC (w.alloc (.cells #[.bool p,.slice A n c,.bool q,.slice B m d] 48));have F1:Bx w W1 p q (.slice A n c) (.slice B m d):=by rw[<-ak];exact Bx.start w _ _ _ _
 have F:=Hd F1;have e0:=F1.a0;have e1:=F1.a1;have e2:=F1.a2;have e3:=F1.a3;have X:=fB hx hy hM;clear hx hy hM F1;by_cases Z:gZ (p,l1)=true
 ·have N:=Hd (show rJ (gZ (p,l1))=0 by rw[Z];rfl);by_cases aa:gZ (q,l2)=true
  ·have EX:=Hd (show rJ (gZ (q,l2))=0 by rw[aa];rfl);obtain⟨C,YL,ac⟩:=(nU _).1 Z;obtain⟨l,YM,ad⟩:=(nU _).1 aa;have ep:aG C=p:=(gM Prod.fst YL).symm;have eq:aG l=q:=(gM Prod.fst YM).symm;have ah:ints (bG C)=l1:=(gM Prod.snd YL).symm;have ai:ints (bG l)=l2:=(gM Prod.snd YM).symm;have ae:DT (p,l1)=C:=by rw[YL,nG]
   have af:DT (q,l2)=l:=by rw[YM,nG]
   have ag:=tK ac ad;have HG:=Hd2 (nJ ag) (nK ag);have O:=Hd2 ac ad;have t:=h_ ep eq ah ai;have HD:=Hd2 ae af;have WL:dF ((p,l1),(q,l2))=(decide (0<l)&&decide (Int.gcd C l=1)):=by simp[dF,Z,aa,ae,af]
   have Z9:=Hd WL;clear WL ac ad ag YL YM ep eq ah ai ae af;by_cases hp:0<l
   ·have I:=Hd (show decide (0<l)=true from cw hp);have ab:=Hd (show bG (Int.gcd C l:Int)=bC (Int.gcd C l) by simp[bG]);by_cases K:Int.gcd C l=1
    ·have E:=Hd (show qM (dF ((p,l1),(q,l2)))=0 by rw[Z9.out,I.out,K];rfl);have HL:=Hd (show(bG (Int.gcd C l:Int)).length=1 by rw[ab.out,K,iP oE,show 1/BB=0 from rfl,bU];rfl);have Z4:=Hd K;clear K;refine ent func93 rfl ntmps93 ?_
     gi_wp2_with (first
      |(refine Cl 138 (nM (z:=l) (M:=M) ⟨B,m,d,by rw[t.b],by rw[t.w];exact((X.b.go F.out.bl).go i.u).go Y.u⟩) ?_;rintro e w4 ⟨rfl,hb4⟩;rw[I.out];have F4:=Y.a.go hb4;have o0:=F4.a0;have o1:=F4.a1;have o2:=F4.a2;have o3:=F4.a3;have D:=Hd2 F4 hb4;clear F4 hb4)
      |(refine⟨bq,?_⟩;gi_at_call 137;have g:=i.out;clear g;refine Cn (eF B m d q l2 _ ((X.b.go F.out.bl).go i.u)) ?_;rintro e w3 ⟨rfl,y⟩;rw[EX.out];have F3:=i.a.go y;have y0:=F3.a0;have y1:=F3.a1;have y2:=F3.a2;have y3:=F3.a3;have Y:=Hd2 F3 y;clear y F3)
      |(refine Cl 137 (eF A n c p l1 _ (X.a.go F.out.bl)) ?_;rintro e w2 ⟨rfl,o⟩;rw[N.out];have j:=F.out.go o;have u0:=j.a0;have u1:=j.a1;have u2:=j.a2;have u3:=j.a3;have i:=Hd2 j o;clear j o)
      |(refine Cl 139 (yH (a:=C) (b:=l) (fun k U=>cf (X.v k U) D.a.bl.size) ⟨A,n,c,by rw[t.a],by rw[t.c];exact X.a.go D.a.bl⟩ ⟨B,m,d,by rw[t.b],by rw[t.w];exact X.b.go D.a.bl⟩ O.a O.u) ?_;rintro e G ⟨u5,rfl,L,J⟩;rw[HG.a];rw[HG.u]at L;obtain⟨Ag,ng,cg,rfl,hs5⟩:=L;rw[show aG (Int.gcd C l:Int)=false from cE oE];have P:ng=1:=by rw[<-hs5.eu];exact HL.out
        obtain⟨Q,og,R,rfl,S,T⟩:=QI (g:=Int.gcd C l) (by have h:=hs5;rw[ab.out]at h;exact h) P;subst P;have aj:(G.alloc (.cells #[.bool false,.slice (some ⟨Q,og,none⟩) 1 cg] 46)).cell? ⟨Q,og,none⟩=some (.int .i64 (R:Int)):=(((bw G G).alloc pc _).cell (bu G _ S)).trans S;obtain rfl:R=1:=T.trans Z4.out;clear T hs5;have H:=Hd (D.a.go J);clear J))
     exact Nl
    have E:=Hd (show qM (dF ((p,l1),(q,l2)))=100 by rw[Z9.out,I.out,cE K];rfl);by_cases hL:(bG (Int.gcd C l:Int)).length=1
    ·have HL:=Hd hL;have Z4:=Hd K;clear K hL;refine ent func93 rfl ntmps93 ?_
     gi_wp2_with (first
      |(refine Cl 138 (nM (z:=l) (M:=M) ⟨B,m,d,by rw[t.b],by rw[t.w];exact((X.b.go F.out.bl).go i.u).go Y.u⟩) ?_;rintro e w4 ⟨rfl,hb4⟩;rw[I.out];have F4:=Y.a.go hb4;have o0:=F4.a0;have o1:=F4.a1;have o2:=F4.a2;have o3:=F4.a3;have D:=Hd2 F4 hb4;clear F4 hb4)
      |(refine⟨bq,?_⟩;gi_at_call 137;have g:=i.out;clear g;refine Cn (eF B m d q l2 _ ((X.b.go F.out.bl).go i.u)) ?_;rintro e w3 ⟨rfl,y⟩;rw[EX.out];have F3:=i.a.go y;have y0:=F3.a0;have y1:=F3.a1;have y2:=F3.a2;have y3:=F3.a3;have Y:=Hd2 F3 y;clear y F3)
      |(refine Cl 137 (eF A n c p l1 _ (X.a.go F.out.bl)) ?_;rintro e w2 ⟨rfl,o⟩;rw[N.out];have j:=F.out.go o;have u0:=j.a0;have u1:=j.a1;have u2:=j.a2;have u3:=j.a3;have i:=Hd2 j o;clear j o)
      |(refine Cl 139 (yH (a:=C) (b:=l) (fun k U=>cf (X.v k U) D.a.bl.size) ⟨A,n,c,by rw[t.a],by rw[t.c];exact X.a.go D.a.bl⟩ ⟨B,m,d,by rw[t.b],by rw[t.w];exact X.b.go D.a.bl⟩ O.a O.u) ?_;rintro e G ⟨u5,rfl,L,J⟩;rw[HG.a];rw[HG.u]at L;obtain⟨Ag,ng,cg,rfl,hs5⟩:=L;rw[show aG (Int.gcd C l:Int)=false from cE oE];have P:ng=1:=by rw[<-hs5.eu];exact HL.out
        obtain⟨Q,og,R,rfl,S,T⟩:=QI (g:=Int.gcd C l) (by have h:=hs5;rw[ab.out]at h;exact h) P;subst P;have aj:(G.alloc (.cells #[.bool false,.slice (some ⟨Q,og,none⟩) 1 cg] 46)).cell? ⟨Q,og,none⟩=some (.int .i64 (R:Int)):=(((bw G G).alloc pc _).cell (bu G _ S)).trans S;have al:¬R=1:=fun e=>Z4.out (T.symm.trans e);clear T hs5;have H:=Hd (D.a.go J);clear J))
     exact Nl
    have HL:=Hd hL;clear K hL;refine ent func93 rfl ntmps93 ?_
    gi_wp2_with (first
     |(refine Cl 138 (nM (z:=l) (M:=M) ⟨B,m,d,by rw[t.b],by rw[t.w];exact((X.b.go F.out.bl).go i.u).go Y.u⟩) ?_;rintro e w4 ⟨rfl,hb4⟩;rw[I.out];have F4:=Y.a.go hb4;have o0:=F4.a0;have o1:=F4.a1;have o2:=F4.a2;have o3:=F4.a3;have D:=Hd2 F4 hb4;clear F4 hb4)
     |(refine⟨bq,?_⟩;gi_at_call 137;have g:=i.out;clear g;refine Cn (eF B m d q l2 _ ((X.b.go F.out.bl).go i.u)) ?_;rintro e w3 ⟨rfl,y⟩;rw[EX.out];have F3:=i.a.go y;have y0:=F3.a0;have y1:=F3.a1;have y2:=F3.a2;have y3:=F3.a3;have Y:=Hd2 F3 y;clear y F3)
     |(refine Cl 137 (eF A n c p l1 _ (X.a.go F.out.bl)) ?_;rintro e w2 ⟨rfl,o⟩;rw[N.out];have j:=F.out.go o;have u0:=j.a0;have u1:=j.a1;have u2:=j.a2;have u3:=j.a3;have i:=Hd2 j o;clear j o)
     |(refine Cl 139 (yH (a:=C) (b:=l) (fun k U=>cf (X.v k U) D.a.bl.size) ⟨A,n,c,by rw[t.a],by rw[t.c];exact X.a.go D.a.bl⟩ ⟨B,m,d,by rw[t.b],by rw[t.w];exact X.b.go D.a.bl⟩ O.a O.u) ?_;rintro e G ⟨u5,rfl,L,J⟩;rw[HG.a];rw[HG.u]at L;obtain⟨Ag,ng,cg,rfl,hs5⟩:=L;rw[show aG (Int.gcd C l:Int)=false from cE oE];have P:¬ng=1:=fun e=>HL.out (by rw[hs5.eu,e]);clear hs5;have H:=Hd (D.a.go J);clear J))
    exact Nl
   have I:=Hd (show decide (0<l)=false from cE hp);have E:=Hd (show qM (dF ((p,l1),(q,l2)))=100 by rw[Z9.out,I.out];rfl);refine ent func93 rfl ntmps93 ?_
   gi_wp2_with (first
    |(refine Cl 138 (nM (z:=l) (M:=M) ⟨B,m,d,by rw[t.b],by rw[t.w];exact((X.b.go F.out.bl).go i.u).go Y.u⟩) ?_;rintro e w4 ⟨rfl,hb4⟩;rw[I.out];have F4:=Y.a.go hb4;have o0:=F4.a0;have o1:=F4.a1;have o2:=F4.a2;have o3:=F4.a3;have D:=Hd2 F4 hb4;clear F4 hb4)
    |(refine⟨bq,?_⟩;gi_at_call 137;have g:=i.out;clear g;refine Cn (eF B m d q l2 _ ((X.b.go F.out.bl).go i.u)) ?_;rintro e w3 ⟨rfl,y⟩;rw[EX.out];have F3:=i.a.go y;have y0:=F3.a0;have y1:=F3.a1;have y2:=F3.a2;have y3:=F3.a3;have Y:=Hd2 F3 y;clear y F3)
    |(refine Cl 137 (eF A n c p l1 _ (X.a.go F.out.bl)) ?_;rintro e w2 ⟨rfl,o⟩;rw[N.out];have j:=F.out.go o;have u0:=j.a0;have u1:=j.a1;have u2:=j.a2;have u3:=j.a3;have i:=Hd2 j o;clear j o)
    |(refine⟨bq,?_⟩))
   go_ret;exact⟨by rw[E.out];rfl,D.a.bl⟩
  have EX:=Hd (show rJ (gZ (q,l2))=90 by simp[aa,rJ]);have E:=Hd (show qM (dF ((p,l1),(q,l2)))=100 by simp[dF,aa,qM]);refine ent func93 rfl ntmps93 ?_
  gi_wp2_with (first
   |(refine⟨bq,?_⟩;gi_at_call 137;have g:=i.out;clear g;refine Cn (eF B m d q l2 _ ((X.b.go F.out.bl).go i.u)) ?_;rintro e w3 ⟨rfl,y⟩;rw[EX.out];have Y:=Hd (i.a.go y);clear y)
   |(refine Cl 137 (eF A n c p l1 _ (X.a.go F.out.bl)) ?_;rintro e w2 ⟨rfl,o⟩;rw[N.out];have j:=F.out.go o;have u0:=j.a0;have u1:=j.a1;have u2:=j.a2;have u3:=j.a3;have i:=Hd2 j o;clear j o)
   |(refine⟨bq,?_⟩))
  go_ret;exact⟨by rw[E.out];rfl,Y.out.bl⟩
 ·have N:=Hd (show rJ (gZ (p,l1))=90 by simp[Z,rJ]);have E:=Hd (show qM (dF ((p,l1),(q,l2)))=100 by simp[dF,Z,qM]);refine ent func93 rfl ntmps93 ?_
  gi_wp2_with (first
   |(refine Cl 137 (eF A n c p l1 _ (X.a.go F.out.bl)) ?_;rintro e w2 ⟨rfl,o⟩;rw[N.out];have j:=F.out.go o;have u0:=j.a0;have u1:=j.a1;have u2:=j.a2;have u3:=j.a3;have i:=Hd2 j o;clear j o)
   |(refine⟨bq,?_⟩))
  go_ret;exact⟨by rw[E.out];rfl,i.a.bl⟩
theorem Sl.ahX{xs:List fC}(h:Sl fC w M A n c xs){k:Nat}(hk:xs[k]?=some ((p,l1),(q,l2))):
 ∃b o A1 n1 c1 A2 n2 c2,A=some ⟨b,o,none⟩/\w.cell? ⟨b,o+k*4,none⟩=some (.bool p)/\w.cell? ⟨b,o+k*4+1,none⟩=some (.slice A1 n1 c1)/\w.cell? ⟨b,o+k*4+2,none⟩=some (.bool q)/\w.cell? ⟨b,o+k*4+3,none⟩=some (.slice A2 n2 c2)/\Sl Int w M A1 n1 c1 l1/\Sl Int w M A2 n2 c2 l2:=by
 obtain⟨b,o,y,rfl,t,i⟩:=h.get hk;obtain⟨u,C,rfl,⟨l,E,rfl,j,A1,n1,c1,rfl,D⟩,⟨ds2,fs2,rfl,K,A2,n2,c2,rfl,h6⟩⟩:=t;have j:l= [.bool p]:=j;have K:ds2= [.bool q]:=K;subst j;subst K;refine⟨b,o,A1,n1,c1,A2,n2,c2,rfl,?_,?_,?_,?_,D,h6⟩;·have:=i.2 0 (.bool p) rfl;exact this
 ·have:=i.2 1 (.slice A1 n1 c1) rfl;exact this
 ·have:=i.2 2 (.bool q) rfl;exact this
 ·have:=i.2 3 (.slice A2 n2 c2) rfl;exact this
theorem Tv{r:Rt}(h:r.ok):dF (jd r)=true:=(zx _).2 ⟨r,h,rfl⟩
theorem uO(A:Option Addr)(n c:Nat)(zs:List Rt)(w:World)(hM:b_ M w)(hx:Sl fC w M A n c (zs.map jd))(hz:∀z,z∈zs->z.ok):
 CB 46 #[.slice A n c] (.tuple #[]) w:=by
 refine wid ?_;have hs:=hx.small;have l:zs.length=n:=by have:=hx.len;simpa using this
 have H:=Hd hx;have HZ:=Hd hz;have HL:=Hd l;have HM:=Hd hM;clear hx hz l hM;refine ent func46 rfl ntmps46 ?_;gi_wp2;gi_loopw[6] (fun i wr=>∃k:Nat,k<=n/\i=.int .i64 k/\Below w w wr) (fun i _=>n-(intOf i).toNat);case atStart=>exact⟨0,bO _,rfl,bw _ _⟩
 case round=>
  obtain⟨k,T,rfl,hb⟩:=hrel;by_cases G:k<n
  ·obtain⟨z,hz⟩:=dW zs k (by rw[HL.out];exact G);obtain⟨b,o,I,U,L,K,X,N,rfl,O,P,Q,R,t,y⟩:=(H.out.keep (a_ hb M)).ahX (k:=k) (p:=aG z.num) (l1:=ints (bG z.num)) (q:=aG z.den) (l2:=ints (bG z.den)) (by rw[cP,hz];rfl);have S:=Hd2 t y;have D:=Hd (show qM (dF ((aG z.num,ints (bG z.num)),(aG z.den,ints (bG z.den))))=0 by rw[show((aG z.num,ints (bG z.num)),(aG z.den,ints (bG z.den)))=jd z from rfl,Tv (HZ.out z (aR hz))];rfl);generalize aG z.num=p at*;generalize aG z.den=q at*;clear t y hz
   gi_wp2_with (first
    |(refine Cl 92 (yF _ _) ?_;rintro e J ⟨rfl,rfl⟩)
    |(refine Cl 93 (Em (l1:=ints (bG z.num)) (l2:=ints (bG z.den)) (M:=M) (fun j F=>by have:=HM.out j F;have:=hb.size;simp;omega) (S.a.go (by exact bel)) (S.u.go (by exact bel))) ?_;rintro e Y ⟨rfl,h⟩;rw[D.out];have C:=Hd h;clear h)
    |fail)
   have E:Below w w J:=(hb.alloc hb.size _).trans (C.out.mono (by simp;have:=hb.size;omega));exact⟨⟨k+1,oE,by go_num,E⟩,by simp[intOf];omega⟩
  ·gi_wp2;go_end0;exact⟨rfl,hb⟩
theorem WM{MM:List Nat}{b be:Nat}{d:Nat}{u4:Value}(h0:V.cell? ⟨b,0,none⟩=some u0)(h1:V.cell? ⟨b,1,none⟩=some u1)(h2:V.cell? ⟨b,2,none⟩=some u2)(h3:V.cell? ⟨b,3,none⟩=some u3)(h4:V.cell? ⟨be,0,none⟩=some u4)
 (hQ:QW V MM (.agg #[.bool q,.slice A n c,.bool r,.slice B m d]) x) (hm:∀k,k∈M->k∈MM) (hbm:b∈MM) (hem:be∈MM) (hne:be≠b) (hb:Below s w V) (hsb:s<=b) (hse:s<=be):
 ∃wF,((((V.setCell ⟨b,0,none⟩ (.bool q)).setCell ⟨b,1,none⟩ (.slice A n c)).setCell ⟨b,2,none⟩ (.bool r)).setCell ⟨b,3,none⟩ (.slice B m d)).setCell ⟨be,0,none⟩ (.int .i64 0)=wF/\
  wF.cell? ⟨b,0,none⟩=some (.bool q)/\wF.cell? ⟨b,1,none⟩=some (.slice A n c)/\wF.cell? ⟨b,2,none⟩=some (.bool r)/\wF.cell? ⟨b,3,none⟩=some (.slice B m d)/\wF.cell? ⟨be,0,none⟩=some (.int .i64 0)/\
  QW wF M (.agg #[.bool q,.slice A n c,.bool r,.slice B m d]) x/\Below s w wF:=by
 have j:=(((((cF MM V).setCell (p:=⟨b,0,none⟩) (.inl hbm) (.bool q)).setCell (p:=⟨b,1,none⟩) (.inl hbm) (.slice A n c)).setCell (p:=⟨b,2,none⟩) (.inl hbm) (.bool r)).setCell (p:=⟨b,3,none⟩) (.inl hbm) (.slice B m d)).setCell (p:=⟨be,0,none⟩) (.inl hem) (.int .i64 0);have i:¬b=be:=fun e=>hne e.symm;have h:¬be=b:=hne;refine⟨_,rfl,?_,?_,?_,?_,?_,?_,?_⟩;·simp[go_sem,h0,h1,h2,h3,h4,i,h]
 ·simp[go_sem,h0,h1,h2,h3,h4,i,h]
 ·simp[go_sem,h0,h1,h2,h3,h4,i,h]
 ·simp[go_sem,h0,h1,h2,h3,h4,i,h]
 ·simp[go_sem,h0,h1,h2,h3,h4,i,h]
 ·obtain⟨l,n',t,o,y,u,e,hs,S⟩:=hQ;exact⟨l,n',t,o,y,u,e,(hs.keep j).less hm,(S.keep j).less hm⟩
 ·exact((((hb.setCell (p:=⟨b,0,none⟩) hsb _).setCell (p:=⟨b,1,none⟩) hsb _).setCell (p:=⟨b,2,none⟩) hsb _).setCell (p:=⟨b,3,none⟩) hsb _).setCell (p:=⟨be,0,none⟩) hse _
structure F7(w W:World)(q1 q2:Bool)(v1 v2:Value):Prop where
 a0:W.cell? ⟨w,0,none⟩=some (.bool q1)
 a1:W.cell? ⟨w,1,none⟩=some v1
 a2:W.cell? ⟨w+1,0,none⟩=some (.bool q2)
 a3:W.cell? ⟨w+1,1,none⟩=some v2
 b0:W.cell? ⟨w+1+1,0,none⟩=some (.bool false)
 b1:W.cell? ⟨w+1+1,1,none⟩=some (.slice none 0 0)
 b2:W.cell? ⟨w+1+1,2,none⟩=some (.bool false)
 b3:W.cell? ⟨w+1+1,3,none⟩=some (.slice none 0 0)
 e0:W.cell? ⟨w+1+1+1,0,none⟩=some (.int .i64 0)
 f0:W.frozen? ⟨w+1+1,0,none⟩=false
 f1:W.frozen? ⟨w+1+1,1,none⟩=false
 f2:W.frozen? ⟨w+1+1,2,none⟩=false
 f3:W.frozen? ⟨w+1+1,3,none⟩=false
 fe:W.frozen? ⟨w+1+1+1,0,none⟩=false
 bl:Below w w W
 sz:w.heap.size+4<=W.heap.size
theorem F7.go(h:F7 w W q1 q2 v1 v2)(hb:Below W W W'):F7 w W' q1 q2 v1 v2:=by have hs:=h.sz;have c:∀(k o:Nat) (u:Value),k<w.heap.size+4->W.cell? ⟨k,o,none⟩=some u->W'.cell? ⟨k,o,none⟩=some u:=fun k o u j i=>(hb.cell (p:=⟨k,o,none⟩) (show k<_ by omega)).trans i;have f:∀(k o:Nat),k<w.heap.size+4->W.frozen? ⟨k,o,none⟩=false->W'.frozen? ⟨k,o,none⟩=false:=fun k o j i=>(hb.frozen (p:=⟨k,o,none⟩) (show k<_ by omega)).trans i;exact⟨c _ _ _ oE h.a0,c _ _ _ oE h.a1,c _ _ _ oE h.a2,c _ _ _ oE h.a3,c _ _ _ oE h.b0,c _ _ _ oE h.b1,c _ _ _ oE h.b2,c _ _ _ oE h.b3,c _ _ _ oE h.e0,f _ _ oE h.f0,f _ _ oE h.f1,f _ _ oE h.f2,f _ _ oE h.f3,f _ _ oE h.fe,h.bl.trans (hb.mono h.bl.size),by have:=hb.size;omega⟩
theorem F7.start(w:World)(q1 q2:Bool)(v1 v2:Value):
 F7 w ((((w.alloc (.cells #[.bool q1,v1] 46)).alloc (.cells #[.bool q2,v2] 46)).alloc (.cells #[.bool false,.slice none 0 0,.bool false,.slice none 0 0] 48)).alloc (.cells #[.int .i64 0] 32)) q1 q2 v1 v2:=
 ⟨oX,oX,oX,oX,oX,oX,oX,oX,oX,oX,oX,oX,oX,oX,by exact bel,oO⟩
theorem agF{n d:Int}(hM:b_ M w)(hn:ZV w M v1 n)(hd:ZV w M v2 d)(fn:fits n=true)(fd:fits d=true)(h0:d≠0):
 Calls prog 132 #[v1,v2] w fun e w'=>∃u,e=.returned (.tuple #[u,.int .i64 0])/\QW w' M u (eP n d)/\Below w w w':=by
 refine wid ?_;obtain⟨A,k1,c1,rfl,hx⟩:=hn;obtain⟨B,k2,c2,rfl,i⟩:=hd;have aa:0<k2:=by
  have hl:=i.eu;have:(bG d).length≠0:=by intro e;have:=jO.1 (c_.1 e);omega
  omega
 have P:=Hd (show rJ (gZ (aG n,ints (bG n)))=0 by rw[show(aG n,ints (bG n))=jk n from rfl,j_ n fn];rfl);have EX:=Hd (show rJ (gZ (aG d,ints (bG d)))=0 by rw[show(aG d,ints (bG d))=jk d from rfl,j_ d fd];rfl)
 have R:=Hd (fun(W:World) (hb:Below w w W) (hs:w.heap.size+4<=W.heap.size)=>Ej (w:=W) (M:=(w+1+1)::(w.heap.size+1+1+1)::M) (n:=n) (d:=d) (A:=A) (B:=B) (k1:=k1) (k2:=k2) (c1:=c1) (c2:=c2)
  (by
    intro k h;simp only[cB]at h;rcases h with rfl|rfl|h;·omega
    ·omega
    have:=hM k h;omega)
  (((hx.more (b:=w+1+1+1) oE).more (b:=w+1+1) oE).keep (a_ hb _))
  (((i.more (b:=w+1+1+1) oE).more (b:=w+1+1) oE).keep (a_ hb _)) fn fd h0)
 have X:=Hd2 hx i;generalize aG n=q1 at*
 generalize aG d=q2 at*
 obtain⟨W1,T⟩:=aC ((((w.alloc (.cells #[.bool q1,.slice A k1 c1] 46)).alloc (.cells #[.bool q2,.slice B k2 c2] 46)).alloc (.cells #[.bool false,.slice none 0 0,.bool false,.slice none 0 0] 48)).alloc (.cells #[.int .i64 0] 32));have F1:F7 w W1 q1 q2 (.slice A k1 c1) (.slice B k2 c2):=by rw[<-T];exact F7.start w _ _ _ _
 have F:=Hd F1;have e0:=F1.a0;have e1:=F1.a1;have e2:=F1.a2;have e3:=F1.a3;clear hx i hM F1 fn fd h0;cases q1<;>cases q2
 all_goals(
 refine qj func132 rfl ntmps132 ?_
 gi_wp2_with (first
  |(refine Cl 136 (R.out _ Y.out.bl Y.out.sz) ?_;rintro e w4 ⟨u4,rfl,⟨l,I,y,o,H,C,rfl,K,L⟩,hb4⟩;have F4:=Y.out.go hb4;obtain⟨N,E⟩:=aC (aG (eP n d).num);obtain⟨O,G⟩:=aC (aG (eP n d).den);rw[E,G];have Z:=Hd (show QW w4 _ (.agg #[.bool N,.slice l I y,.bool O,.slice o H C]) (eP n d)from⟨l,I,y,o,H,C,by rw[E,G],K,L⟩);have r0:=F4.b0;have r1:=F4.b1;have r2:=F4.b2;have r3:=F4.b3;have r5:=F4.e0;have x0:=F4.f0;have x1:=F4.f1;have x2:=F4.f2;have x3:=F4.f3;have x5:=F4.fe;have Q:=Hd F4;clear K L hb4 F4 E G)
  |(refine Cl 92 (yF _ _) ?_;rintro e wn ⟨rfl,rfl⟩)
  |(refine⟨bq,?_⟩;gi_at_call 137;have g:=t.out;clear g;refine Cn (eF B k2 c2 _ (ints (bG d)) _ ((X.u.go F.out.bl).go t.u)) ?_;rintro e w3 ⟨rfl,J⟩;rw[EX.out];have F3:=t.a.go J;have y0:=F3.a0;have y1:=F3.a1;have y2:=F3.a2;have y3:=F3.a3;have Y:=Hd F3;clear J F3)
  |(refine Cl 137 (eF A k1 c1 _ (ints (bG n)) _ (X.a.go F.out.bl)) ?_;rintro e w2 ⟨rfl,D⟩;rw[P.out];have j:=F.out.go D;have u0:=j.a0;have u1:=j.a1;have u2:=j.a2;have u3:=j.a3;have t:=Hd2 j D;clear j D)
  |fail)
 obtain⟨wF,U,t0,t1,t2,t3,t5,hQ,S⟩:=WM (M:=M) r0 r1 r2 r3 r5 Z.out (fun k h=>by simp[h]) oO oO oE Q.out.bl oE oE;refine eM (f:=45) (args:=#[.pointer (some ⟨w+1+1+1,0,none⟩)]) oO oO oX (fun _ _=>bq) ?_;rw[U];refine(kT ⟨w+1+1+1,0,none⟩ _).mono ?_;rintro e u' ab ⟨rfl,rfl,rfl⟩;refine⟨.tuple #[.agg #[.bool N,.slice l I y,.bool O,.slice o H C],.int .i64 0],?_,_,rfl,hQ,S⟩;simp[results,results132,go_sem,t0,t1,t2,t3,t5])
theorem En{n:Int}(h:i64 n):fits n=true:=by have i:(bC n.natAbs).length<=3:=BL (by unfold i64 at h;omega);exact cw (cD i oE)
structure F8(w W:World):Prop where
 b0:W.cell? ⟨w,0,none⟩=some (.bool false)
 b1:W.cell? ⟨w,1,none⟩=some (.slice none 0 0)
 b2:W.cell? ⟨w,2,none⟩=some (.bool false)
 b3:W.cell? ⟨w,3,none⟩=some (.slice none 0 0)
 f0:W.frozen? ⟨w,0,none⟩=false
 f1:W.frozen? ⟨w,1,none⟩=false
 f2:W.frozen? ⟨w,2,none⟩=false
 f3:W.frozen? ⟨w,3,none⟩=false
 bl:Below w w W
 sz:w.heap.size+1<=W.heap.size
theorem F8.go(h:F8 w W)(hb:Below W W W'):F8 w W':=by have hs:=h.sz;have c:∀(o:Nat) (u:Value),W.cell? ⟨w,o,none⟩=some u->W'.cell? ⟨w,o,none⟩=some u:=fun o u i=>(hb.cell (p:=⟨w,o,none⟩) (show w.heap.size<_ by omega)).trans i;have f:∀(o:Nat),W.frozen? ⟨w,o,none⟩=false->W'.frozen? ⟨w,o,none⟩=false:=fun o i=>(hb.frozen (p:=⟨w,o,none⟩) (show w.heap.size<_ by omega)).trans i;exact⟨c _ _ h.b0,c _ _ h.b1,c _ _ h.b2,c _ _ h.b3,f _ h.f0,f _ h.f1,f _ h.f2,f _ h.f3,h.bl.trans (hb.mono h.bl.size),by have:=hb.size;omega⟩
theorem F8.start(w:World):F8 w (w.alloc (.cells #[.bool false,.slice none 0 0,.bool false,.slice none 0 0] 48)):=⟨oX,oX,oX,oX,oX,oX,oX,oX,by exact bel,oO⟩
theorem uP{n d:Int}(hM:b_ M w)(hn:i64 n)(hd:i64 d)(h0:d≠0):
 Calls prog 78 #[.int .i64 n,.int .i64 d] w fun e w'=>∃u,e=.returned (.tuple #[u,.int .i64 0])/\QW w' M u (eP n d)/\Below w w w':=by
 refine wid ?_;obtain⟨W1,P⟩:=aC (w.alloc (.cells #[.bool false,.slice none 0 0,.bool false,.slice none 0 0] 48));have F1:F8 w W1:=by rw[<-P];exact F8.start w
 have o:b_ (w.heap.size::M) W1:=by
  intro k i;have:=F1.sz;rcases cB.1 i with rfl|i;·omega
  have:=hM k i;omega
 have H:=h_ o hn hd h0;have F:=Hd F1;clear hM o hn hd h0 F1;refine ent func78 rfl ntmps78 ?_
 gi_wp2_with (first
  |(refine Cl 132 (agF (M:=w::M) (n:=n) (d:=d) ((H.a.le h.u.size).le Y.u.size) (ZV.go h.a Y.u) Y.a (En H.b) (En H.c) H.w) ?_;rintro e w4 ⟨u4,rfl,⟨I,S,N,J,R,O,rfl,C,D⟩,hb4⟩;have F4:=((F.out.go h.u).go Y.u).go hb4;obtain⟨T,j⟩:=aC (aG (eP n d).num);obtain⟨r4,l⟩:=aC (aG (eP n d).den);rw[j,l];have Z:=h_ C D j l;have U:=F4.b0;have X:=F4.b1;have r2:=F4.b2;have r3:=F4.b3;have x0:=F4.f0;have x1:=F4.f1;have x2:=F4.f2;have x3:=F4.f3;have K:=Hd F4;clear C D hb4 F4 j l)
  |(refine⟨bq,?_⟩;gi_at_call 133;have g:=h.out;clear g;refine Cn (Ih (M:=w::M) (H.a.le h.u.size) H.c) ?_;rintro e w3 ⟨u3,rfl,G,y⟩;have Y:=Hd2 G y;clear G y)
  |(refine Cl 133 (Ih (M:=w::M) H.a H.b) ?_;rintro e w2 ⟨u2,rfl,E,t⟩;have h:=Hd2 E t;clear E t)
  |fail)
 obtain⟨wF,Q,t0,t1,t2,t3,hQ,L⟩:=nN U X r2 r3 Z.a Z.b Z.c Z.w K.out.bl pc;rw[Q];refine⟨rfl,.tuple #[.agg #[.bool T,.slice I S N,.bool r4,.slice J R O],.int .i64 0],?_,_,rfl,hQ,L⟩;simp[results,go_sem,t0,t1,t2,t3]
end
