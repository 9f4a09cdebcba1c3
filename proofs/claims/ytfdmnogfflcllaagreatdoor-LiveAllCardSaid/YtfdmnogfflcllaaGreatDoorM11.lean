/- Lemmas -/
import Derived.Sort.LoopGhostIn
import Derived.Test.YtfdmnogfflcllaaGreatDoorM10
set_option linter.all false
set_option maxRecDepth 100000
set_option maxHeartbeats 0
namespace Go.Proofs.YtfdmnogfflcllaaGreatDoor
open Go.Proofs.Tryz Go.RowKit Go.Shelf
theorem Ap{p:Prop}(h:p:=by have Q:=lE (base:=w.heap.size+1) (size:=1) (e:=3) (w.alloc (.cells #[false,.slice none 0 0] 46)) #[] 0 po (by simp[maxLen]) rfl;rw[show(w.alloc (.cells #[false,.slice none 0 0] 46)).heap.size=w.heap.size+1 by simp]at Q;exact⟨0,x, [],bj _,rfl,Hd2 (df _).symm rfl,Q,by exact bel,po,pB,pB,pB,pB⟩):p:=h
theorem I7{p:Prop}(h:p:=by
 have:(bG z).length≠0:=by intro e;have:=jO.1 (de.1 e);omega
 by_cases i:z<0;·simp[i];omega
 simp[i];omega):p:=h
theorem ND{p:Prop}(h:p:=by go_ret;exact⟨by rw[G.out];rfl,I.out.bl.alloc I.out.bl.size _⟩):p:=h
variable {x:Rt}{n base s c m g:Nat}{w W W' V:World}{v a b v1 v2 d u0 u1 u2 u3:Value}{xs l1 l2:List Int}{M:List Nat}{z:Int}{q1 q2 q r p:Bool}{A B:Option Addr}{e f:TypeId}
section
attribute [local go_sem] cX
theorem adX(r:Nat):bits .and .u64 (r:Int) 1073741823=((r%BB:Nat):Int):=by
 have k:(BitVec.ofInt 64 1073741823).toNat=2^30-1:=pt;have i:(BitVec.ofInt 64 (r:Int) &&& BitVec.ofInt 64 1073741823).toNat=((r:Int)% ((2^64:Nat):Int)).toNat%2^30:=by rw[BitVec.toNat_and,BitVec.toNat_ofInt,k,Nat.and_two_pow_sub_one_eq_mod]
 show IntKind.u64.wrap ((BitVec.ofInt 64 (r:Int) &&& BitVec.ofInt 64 1073741823).toNat:Nat)=((r%1073741824:Nat):Int);rw[i,IntKind.wrap_u64];omega
theorem BL{x:Nat}(h:x<=18446744073709551615):(bC x).length<=3:=by
 by_cases i:x=0;·rw[i,bU];simp
 rw[iP i];by_cases j:x/BB=0;·rw[j,bU];simp
 rw[iP j];by_cases k:x/BB/BB=0;·rw[k,bU];simp
 rw[iP k];have F:x/BB/BB/BB=0:=by show x/1073741824/1073741824/1073741824=0;omega
 rw[F,bU];simp
theorem Tt{n:Int}(h:i64 n):(if n<0 then(IntKind.u64.wrap (-(IntKind.u64.wrap n)))else IntKind.u64.wrap n)=(n.natAbs:Int):=by unfold i64 at h;rw[IntKind.wrap_u64,IntKind.wrap_u64];split<;>omega
theorem O8(h:w.ownsRow base 3 1 v n (xs.map (Value.int .i64)))(hb:base<=w.heap.size)(hn:n<=1000000000)(g:Nat)(x:Int)
 (hc:w.cell? ⟨g,0,none⟩=some (.int .i64 x)):
 ∃v' w',(Builtin.append_ #[190,190] 190 #[v,.slice (some ⟨g,0,none⟩) 1 1]).run prog w=.ok v' w'/\w'.ownsRow base 3 1 v' (n+1) ((xs++ [x]).map (Value.int .i64))/\w.grownBy w' v.ownBlock/\(v'.ownBlock=v.ownBlock\/v'.ownBlock=some w.heap.size)/\∃gg cc,v'=.slice (some ⟨gg,0,none⟩) (n+1) cc:=by
 obtain⟨F,y,C,D,E⟩:=lB qo;obtain⟨v',w',l,k,o,_,t⟩:=mw (P:=prog) w base 190 190 3 F (.int .i64 0) 1 8 underlying190 y C D E rfl pt v n _ h ⟨g,0,none⟩ 1 1 [x] rfl (by intro j u i;match j,i with|0,i=>cases i;exact hc) (by simp[Value.oneCell']) (by unfold maxLen;omega) pj hb;rw[ed];exact⟨v',w',l,k,o,t,ownsRow_succ k⟩
theorem WI(h:W.ownsRow base 3 1 v n (xs.map (Value.int .i64)))(hb:base<=W.heap.size)(hn:n<=1000000000)(x:Int):
 ∃v' W',(Builtin.append_ #[190,190] 190 #[v,.slice (some ⟨W,0,none⟩) 1 1]).run prog (W.alloc (.cells #[.int .i64 x] 3))=.ok v' W'/\W'.ownsRow base 3 1 v' (n+1) ((xs++ [x]).map (Value.int .i64))/\Below base W W'/\∃gg cc,v'=.slice (some ⟨gg,0,none⟩) (n+1) cc:=by
 obtain⟨v',W',j,T,l,t,o⟩:=O8 (h.alloc (.cells #[x] 3)) px hn W.heap.size x pB;exact⟨v',W',j,T,(((bL base W).alloc hb _).grown l px (fun k i=>(h.lt k i).1)),o⟩
theorem Ih{n:Int}(hM:b_ M w)(hn:i64 n):
 Calls prog 133 #[n] w fun e w'=>∃u,e=.returned u/\ZV w' M u n/\Below w w w':=by
 refine wid ?_;have J:=Tt hn;have L:(bC n.natAbs).length<=3:=BL (by unfold i64 at hn;omega);obtain⟨x,hx⟩:=aC n.natAbs;have ag:x<=9223372036854775808:=by unfold i64 at hn;omega
 rw[hx]at J L;have P:=fB L hM hx;clear L hM hx hn;by_cases E:n<0;all_goals(
 first
  |rw[if_pos E]at J
  |rw[if_neg E]at J
 refine ent func133 ntmps133 ?_;gi_wp2;gi_loopw[3,4] (fun v u wr=>∃(k r:Nat) (out:List Nat),r<=x/\u=.int .u64 r/\Hid (bC x=out++bC r/\out.length=k)/\Hid (wr.ownsRow (w.heap.size+1) 3 1 v k ((ints out).map (Value.int .i64)))/\Below w w wr/\w.heap.size+1<=wr.heap.size/\wr.cell? ⟨w,0,none⟩=some (.bool false)/\wr.cell? ⟨w,1,none⟩=some (.slice none 0 0)/\wr.frozen? ⟨w,0,none⟩=false/\wr.frozen? ⟨w,1,none⟩=false) (fun _ u _=>(intOf u).toNat);case atStart=>exact Ap
 case round=>
  obtain⟨k,r,out,hr,rfl,i,D,hb,ae,G,H,f0,f1⟩:=hrel;by_cases ad:0<r
  ·have hk:k<=3:=by have:=P.a;rw[i.a,cJ,i.u]at this;omega
   obtain⟨v',W',r1,T,o,gg,cc,rfl⟩:=WI D.out ae pj ((r:Int)% (BB:Int));rw[show ints out++ [(r:Int)% (BB:Int)]=ints (out++ [r%BB]) by simp[ints]]at T;have ab:bC x=(out++ [r%BB])++bC (r/BB)/\(out++ [r%BB]).length=k+1:=by refine⟨?_,by simp[i.u]⟩;rw[i.a,iP pj];simp
   have ac:r/BB<r:=Nat.div_lt_self ad rE;have JR:=Hd r1;have F:=fB T (hb.trans (o.mono pj)) ab;have e1:=adX r;have e2:(r:Int)/1073741824=((r/BB:Nat):Int):=by rw[BBi];exact(Int.natCast_ediv _ _).symm
   have N:=Hd e2;have e3:IntKind.i64.wrap ((r:Int)% (BB:Int))=(r:Int)% (BB:Int):=by rw[show(r:Int)% (BB:Int)=((r%BB:Nat):Int)from(Int.natCast_emod _ _).symm];have:=k_ r eX;have l:BB<=1073741824:=bj _;rw[cA];omega
   have af:=o.size;have R:=(o.cell (p:=⟨w,0,none⟩) (e_ _)).trans G;have S:=(o.cell (p:=⟨w,1,none⟩) (e_ _)).trans H;have X:=(o.frozen (p:=⟨w,0,none⟩) (e_ _)).trans f0;have Z:=(o.frozen (p:=⟨w,1,none⟩) (e_ _)).trans f1;have t:=h_ R S X Z;clear R S X Z G H f0 f1;clear r1 T o ab i D
   gi_wp2_with (first
    |(gi_at_builtin;refine c_ rfl fun K aa=>?_;refine aI _ _ _ rfl rfl rfl JR.out (aa _ _ ?_);clear aa K)
    |fail)
   exact⟨⟨k+1,r/BB,_,pj,by rw[<-N.out];rfl,F.v,F.a,F.b,pj,t.a,t.b,t.c,t.w⟩,by have l:=N.out;show((r:Int)/(BB:Int)).toNat<((r:Int)).toNat;rw[BBi]at l;rw[l,fv,fv];exact ac⟩
  ·obtain rfl:r=0:=pj;have hk:k<=3:=by have:=P.a;rw[i.a,cJ,i.u]at this;omega
   have I:bC x=out:=by have:=i.a;rwa [bU,dx]at this
   have hg:Good out:=by rw[<-I];exact aO x
   obtain⟨O,y,rfl,Y⟩:=Sl.BO D.out (fU hg) pj (M:=w::M) (by
    intro j C;rcases cD.1 C with rfl|C;·omega
    have:=P.b j C;omega)
   rw[<-I]at Y;have HF:=Hd Y;clear Y D i I hg;gi_wp2;refine⟨rfl,.agg #[.bool (decide (n<0)),.slice O k y],by simp[results,go_sem,G,H,E],.agg #[.bool (decide (n<0)),.slice O k y],rfl,⟨O,k,y,rfl,?_⟩,?_⟩
   ·have h:=HF.out.keep ((((cG (w.heap.size::M) wr).setCell (p:=⟨w,0,none⟩) (.inl po) (.bool (decide (n<0)))).setCell (p:=⟨w,1,none⟩) (.inl po) (.slice O k y)));have l:=h.less (M':=M) (fun j C=>bE _ C);rw[show bG n=bC x from by unfold bG;rw[P.v]]
    first
     |exact l
     |(simp only[E,decide_true]at l;exact l)
   exact(hb.setCell (p:=⟨w,0,none⟩) pD _).setCell (p:=⟨w,1,none⟩) pD _)
theorem yF(x:Int)(w:World):Calls prog 92 #[true,x] w fun e w'=>e=.returned (.tuple #[])/\w'=w:=by refine wid ?_;refine ent func92 ntmps92 ?_;gi_wp2;go_end0;exact⟨rfl,rfl⟩
theorem WJ(z:Int)(w:World):Calls prog 48 #[z,.int .i64 0] w fun e w'=>e=.returned z/\w'=w:=by
 refine wid ?_;refine ent func48 ntmps48 ?_;gi_wp2_with (refine Cl 92 (yF _ _) ?_;rintro e i ⟨rfl,rfl⟩)
 go_ret;exact⟨rfl,rfl⟩
theorem Ei(h:ZV w M v z):Calls prog 94 #[v,.int .i64 0] w fun e w'=>e=.returned v/\ZV w' M v z/\Below w w w':=by
 refine wid ?_;obtain⟨A,n,c,rfl,hs⟩:=h;have S:=Hd hs;clear hs;obtain⟨b,hb⟩:=aC (aG z);have HB:=Hd hb;rw[hb];clear hb;cases b;all_goals(
 refine ent func94 ntmps94 ?_;gi_wp2_with (refine Cl 92 (yF _ _) ?_;rintro e i ⟨rfl,rfl⟩)
 exact⟨rfl,_,by simp[results,go_sem],rfl,⟨A,n,c,by rw[HB.out],S.out.go (by exact bel)⟩,by exact bel⟩)
theorem nM(h:ZV w M v z):CB 138 #[v] (.bool (decide (0<z))) w:=by
 refine wid ?_;obtain⟨A,n,c,rfl,hs⟩:=h;have j:=hs.eu;have k:decide (0<z)=(!aG z&&decide (0<n)):=by
  unfold aG;rw[<-j];by_cases l:z=0;·subst l;simp[bG,bU]
  exact I7
 rw[k];clear hs j k;cases aG z;all_goals(
 by_cases o:n=0;all_goals(
 refine ent func138 ntmps138 ?_;gi_wp2;go_ret;exact⟨by first|rfl|simp[o]|(simp;omega),by exact bel⟩))
theorem kT(p:Addr)(w:World):
 CallsDIn Fence.wide n prog 45 #[.pointer (some p)] .returning w fun e u' w'=>e=.returned (.tuple #[])/\u'=.returning/\w'=w:=by
 refine callsDIn_of_wpSIn func45 rfl trivial fun c₀ cs hu=>?_;apply wpSIn_seq;apply wpSIn_region;simp[wpOpsSIn,go_sem,recoverD,hu,ntmps45,Exit.thenS];refine wpSIn_of_wpIn rfl ?_;refine nE (Q:=fun e i w'=>e=.normal/\i.defers= []/\w'=w) ?_ ?_;rotate_left;·rintro e i w' ⟨rfl,j,rfl⟩;cases c₀;simp_all[bodyPostS,results,results45,j]
 clear hu;simp only[gR,gS,i_,fp,df,d_,eN,fq,eM];gi_wp2
theorem tK{a b:Int}(fa:fits a=true)(fb:fits b=true):fits (Int.gcd a b:Int)=true:=by
 by_cases hb:b=0;·subst hb;rw[Int.gcd_zero_right];exact jZ po fa
 have h:Int.gcd a b<=b.natAbs:=Nat.le_of_dvd pj (Nat.gcd_dvd_right _ _);exact jZ (show((Int.gcd a b:Int)).natAbs<=b.natAbs by simpa using h) fb
theorem yG(h:fits z=true)(hl:(bG z).length=n):n<=2048:=by have:=cW h;omega
theorem yH{va vb:Value}{a b:Int}(hM:b_ M w)(ha:ZV w M va a)(hb:ZV w M vb b)(fa:fits a=true)(fb:fits b=true):
 Calls prog 139 #[va,vb] w (ZR w M (Int.gcd a b)):=by
 refine wid ?_;obtain⟨A,n,c,rfl,hx⟩:=ha;obtain⟨B,m,d,rfl,K⟩:=hb;have E:=tK fa fb;have hn:=yG fa hx.eu;have hm:=yG fb K.eu;obtain⟨W1,ag,F1,ab,ac,Y,Q⟩:=Ig hM hx K;have X:=fB ab ac Y;have F:=Hd F1;have HF:=Hd2 fa fb;have e0:=F1.a0;have e1:=F1.a1;have e2:=F1.b0;have e3:=F1.b1;have yU:=Hd Q;have Z:=Hd2 (nJ E) (nK E);have Ny:=Hd E;clear hx K hM ab ac Y F1 fa fb Q E;refine qj func139 rfl ntmps139 ?_;gi_wp2_with (refine Cl 97 (iR _ 2 2 [a,b] _ yU.out (by simp[HF.out.1,HF.out.2])) ?_;rintro e L ⟨rfl,aa⟩;have l:Below W1 W1 L:=((bL W1 W1).alloc pD (.cells #[.bool (aG a),.slice A n c,.bool (aG b),.slice B m d] 46)).trans (aa.mono po);have t:=F.out.go l;have v0:=ah t.a0;have v1:=ah t.a1;have v2:=ah t.b0;have v3:=ah t.b1;have i:=Hd2 t l;clear aa l t)
 refine ak [] [0,1,2,3,4,5] pk pk ?_;refine eH ?_;refine aK ?_;refine lit ?_;gi_wp2;have G3:=h_ (show F4 w L.drew (aG a) (aG b) (.slice A n c) (.slice B m d)from⟨i.a.a0,i.a.a1,i.a.b0,i.a.b1,i.a.x0,i.a.x1,i.a.e0,i.a.f0,i.a.f1,i.a.fe,i.a.bl.drew,i.a.sz⟩) ((X.a.go i.u).keep (cG _ _).drew) ((X.b.go i.u).keep (cG _ _).drew) (X.v.le (w':=L.drew) i.u.size);clear v0 v1 v2 v3 e0 e1 e2 e3;gi_loopg[6,7] (b.natAbs) (fun y s6 s7 wr=>∃(x:Nat) (G:Option Addr) (n' I:Nat) (H:Option Addr) (o J:Nat),s6=.slice G n' I/\s7=.slice H o J/\n'<=2048/\o<=2048/\Hid (Nat.gcd x y=Int.gcd a b/\F4 w wr (aG a) (aG b) (.slice A n c) (.slice B m d)/\Sl Int wr ((w.heap.size+1+1)::(w.heap.size+1+1+1)::M) G n' I (ints (bC x))/\Sl Int wr ((w.heap.size+1+1)::(w.heap.size+1+1+1)::M) H o J (ints (bC y))/\b_ ((w.heap.size+1+1)::(w.heap.size+1+1+1)::M) wr));case atStart=>exact⟨a.natAbs,A,n,c,B,m,d,rfl,rfl,hn,hm,rfl,G3.out⟩
 case round=>
  obtain⟨x,G,n',I,H,o,J,rfl,rfl,ai,ae,k⟩:=hrel;have C:=k.d.eu;by_cases S:o=0
  ·subst S;have D:gk=0:=jO.1 (de.1 C);subst D;have hg:gJ false x=(Int.gcd a b:Int):=by
    have:=k.a;rw[Nat.gcd_zero_right]at this;rw[<-this];rfl
   clear C;gi_wp2_with (refine Cl 140 (zB (v:=x) k.x k.c hg Ny.out) ?_;rintro e w3 ⟨q,N,n4,R,rfl,P,l⟩;have j:=Hd2 (k.b.go l) P;have c0:=j.a.x0;have c1:=j.a.x1;have c2:=j.a.e0;have d0:=j.a.f0;have d1:=j.a.f1;have d2:=j.a.fe;clear l P)
   obtain⟨wF,af,r0,r1,r2,WH,bF⟩:=j.a.fin j.u;refine eS (f:=96) (args:=#[.pointer (some ⟨w+1+1+1,0,none⟩)]) po po pB (fun _ _=>bO) ?_;rw[af];refine(iJ ⟨w+1+1+1,0,none⟩ _).mono ?_;rintro e u' am ⟨rfl,rfl,rfl⟩;refine⟨.tuple #[.agg #[q,.slice N n4 R],.int .i64 0],?_,.agg #[q,.slice N n4 R],by rw[Z.a],by rw[Z.u];exact WH,bF⟩;simp[results,results139,go_sem,r0,r1,r2]
  ·have D:0<gk:=by
     rcases eC gk with e|e;·subst e;rw[bU]at C;exact absurd C.symm S
     ·exact e
   have aj:0<o:=pj;have ad:=Hd C;clear C;gi_wp2_with (refine Cl 185 (L8 (x:=x) (y:=gk) k.x k.c k.d pj D) ?_;rintro e w3 ⟨O,q,cO,O2,q2,Z7,rfl,h1,T,l⟩;have j:=Hd2 T l;clear h1 T l)
   gi_roundg (x%gk);case measure=>exact k_ _ D
   case rel=>
    have al:q2<=o:=by rw[<-j.a.eu,<-ad.out];exact kR (cY (k_ _ D))
    exact⟨gk,_,_,_,_,_,_,rfl,rfl,ae,pj,⟨by rw[LJ];exact k.a,k.b.go j.u,k.d.go j.u,j.a,k.x.le j.u.size⟩⟩
def QW(w:World)(M:List Nat)(v:Value)(r:Rt):Prop:=∃A n c B m d,v=.agg #[.bool (aG r.num),.slice A n c,.bool (aG r.den),.slice B m d]/\Sl Int w M A n c (ints (bG r.num))/\Sl Int w M B m d (ints (bG r.den))
theorem QW.go{w w':World}{M:List Nat}{v:Value}{r:Rt}(h:QW w M v r)(hb:Below w w w'):QW w' M v r:=by obtain⟨A,n,c,B,m,d,rfl,i,j⟩:=h;exact⟨A,n,c,B,m,d,rfl,i.go hb,j.go hb⟩
structure F6(w W:World)(q1 q2:Bool)(v1 v2:Value):Prop where
 a0:W.cell? ⟨w,0,none⟩=some (.bool q1)
 a1:W.cell? ⟨w,1,none⟩=some v1
 a2:W.cell? ⟨w,2,none⟩=some (.bool q2)
 a3:W.cell? ⟨w,3,none⟩=some v2
 b0:W.cell? ⟨w+1,0,none⟩=some (.bool false)
 b1:W.cell? ⟨w+1,1,none⟩=some (.slice none 0 0)
 b2:W.cell? ⟨w+1,2,none⟩=some (.bool false)
 b3:W.cell? ⟨w+1,3,none⟩=some (.slice none 0 0)
 f0:W.frozen? ⟨w+1,0,none⟩=false
 f1:W.frozen? ⟨w+1,1,none⟩=false
 f2:W.frozen? ⟨w+1,2,none⟩=false
 f3:W.frozen? ⟨w+1,3,none⟩=false
 bl:Below w w W
 sz:w.heap.size+2<=W.heap.size
theorem F6.go(h:F6 w W q1 q2 v1 v2)(hb:Below W W W'):F6 w W' q1 q2 v1 v2:=by have hs:=h.sz;have c:∀(k o:Nat) (u:Value),k<w.heap.size+2->W.cell? ⟨k,o,none⟩=some u->W'.cell? ⟨k,o,none⟩=some u:=fun k o u j i=>(hb.cell (p:=⟨k,o,none⟩) (show k<_ by omega)).trans i;have f:∀(k o:Nat),k<w.heap.size+2->W.frozen? ⟨k,o,none⟩=false->W'.frozen? ⟨k,o,none⟩=false:=fun k o j i=>(hb.frozen (p:=⟨k,o,none⟩) (show k<_ by omega)).trans i;exact⟨c _ _ _ pj h.a0,c _ _ _ pj h.a1,c _ _ _ pj h.a2,c _ _ _ pj h.a3,c _ _ _ pj h.b0,c _ _ _ pj h.b1,c _ _ _ pj h.b2,c _ _ _ pj h.b3,f _ _ pj h.f0,f _ _ pj h.f1,f _ _ pj h.f2,f _ _ pj h.f3,h.bl.trans (hb.mono h.bl.size),by have:=hb.size;omega⟩
theorem F6.start(w:World)(q1 q2:Bool)(v1 v2:Value):
 F6 w ((w.alloc (.cells #[q1,v1,q2,v2] 187)).alloc (.cells #[false,.slice none 0 0,false,.slice none 0 0] 48)) q1 q2 v1 v2:=
 ⟨pB,pB,pB,pB,pB,pB,pB,pB,pB,pB,pB,pB,by exact bel,po⟩
theorem nN{b:Nat}{d:Nat}(h0:V.cell? ⟨b,0,none⟩=some u0)(h1:V.cell? ⟨b,1,none⟩=some u1)(h2:V.cell? ⟨b,2,none⟩=some u2)(h3:V.cell? ⟨b,3,none⟩=some u3)
 (hs:Sl Int V (b::M) A n c (ints (bG x.num))) (ht:Sl Int V (b::M) B m d (ints (bG x.den))) (hq:aG x.num=q) (hr:aG x.den=r) (hb:Below s w V) (hsb:s<=b):
 ∃wF,(((V.setCell ⟨b,0,none⟩ q).setCell ⟨b,1,none⟩ (.slice A n c)).setCell ⟨b,2,none⟩ r).setCell ⟨b,3,none⟩ (.slice B m d)=wF/\
  wF.cell? ⟨b,0,none⟩=some (.bool q)/\wF.cell? ⟨b,1,none⟩=some (.slice A n c)/\wF.cell? ⟨b,2,none⟩=some (.bool r)/\wF.cell? ⟨b,3,none⟩=some (.slice B m d)/\
  QW wF M (.agg #[q,.slice A n c,r,.slice B m d]) x/\Below s w wF:=by
 have j:=(((((cG (b::M) V).setCell (p:=⟨b,0,none⟩) (.inl po) q).setCell (p:=⟨b,1,none⟩) (.inl po) (.slice A n c)).setCell (p:=⟨b,2,none⟩) (.inl po) r).setCell (p:=⟨b,3,none⟩) (.inl po) (.slice B m d));refine⟨_,rfl,?_,?_,?_,?_,⟨A,n,c,B,m,d,by rw[hq,hr],(hs.keep j).less (fun k i=>bE _ i),(ht.keep j).less (fun k i=>bE _ i)⟩,?_⟩;·simp[go_sem,h0,h1,h2,h3]
 ·simp[go_sem,h0,h1,h2,h3]
 ·simp[go_sem,h0,h1,h2,h3]
 ·simp[go_sem,h0,h1,h2,h3]
 ·exact(((hb.setCell (p:=⟨b,0,none⟩) hsb _).setCell (p:=⟨b,1,none⟩) hsb _).setCell (p:=⟨b,2,none⟩) hsb _).setCell (p:=⟨b,3,none⟩) hsb _
theorem JA(hl:(bG z).length=n):aG (-z)=(!aG z&&decide (0<n)):=by
 subst hl;unfold aG;by_cases j:z=0;·subst j;simp[bG,bU]
 exact I7
theorem tN(z:Int):bG (-z)=bG z:=by unfold bG;rw[Int.natAbs_neg]
theorem adp{n:Int}(hg:(g:Int)∣n)(h0:0<g):aG (n/(g:Int))=aG n:=by
 obtain⟨a,rfl⟩:=hg;rw[Int.mul_ediv_cancel_left _ pj];unfold aG;by_cases h:a<0;·have:=Int.mul_neg_of_pos_of_neg (show(0:Int)<g by omega) h;simp[h,this]
 have:=Int.mul_nonneg (show(0:Int)<=g by omega) (show 0<=a by omega);simp[h];omega
theorem QH{n:Int}(hg:(g:Int)∣n):n.natAbs% (g:Int).natAbs=0:=by rw[Int.natAbs_natCast];exact Nat.mod_eq_zero_of_dvd (Int.natAbs_dvd_natAbs.2 hg)
theorem aib{c:Value}(h:(w.alloc (.cells #[a,b] e)).alloc (.cells #[c,d] f)=W):W.cell? ⟨w,0,none⟩=some a:=by rw[<-h];simp[go_sem]
theorem aic{c:Value}(h:(w.alloc (.cells #[a,b] e)).alloc (.cells #[c,d] f)=W):W.cell? ⟨w,1,none⟩=some b:=by rw[<-h];simp[go_sem]
theorem aie{c:Value}(h:(w.alloc (.cells #[a,b] e)).alloc (.cells #[c,d] f)=W):W.frozen? ⟨w,0,none⟩=false:=by rw[<-h];simp[go_sem]
theorem aif{c:Value}(h:(w.alloc (.cells #[a,b] e)).alloc (.cells #[c,d] f)=W):W.frozen? ⟨w,1,none⟩=false:=by rw[<-h];simp[go_sem]
theorem aii{p:Prop}(h:p:=by
 refine ent func136 ntmps136 ?_
 gi_wp2_with (first
  |(refine⟨bO,?_⟩;gi_at_call 183;have g:=l.out;clear g;have aj:=(((O.u.less (M':=(w.heap.size+1)::M) (fun k K=>bE _ K)).more (b:=i) l.c.size).keep (bq (l.c.trans (l.w.mono l.c.size)) _));refine Cn (L9 (a:=d) (b:=(g:Int)) (HB.out Y i.heap.size l.a.bl l.a.sz (by rw[<-E];simp;omega)) (HN.u Y i.heap.size l.a.bl (by have:=l.c.size;have:=O.a.sz;omega)) ⟨X,ng,cg,by rw[HY.c],aj⟩ HF.out.2 HY.d HGP.out HY.b) ?_;rintro e j ⟨u6,v6,rfl,⟨T,n6,c6,rfl,ad⟩,⟨A7,n7,c7,rfl,hs7⟩,t⟩;rw[HZ.out.2,show aG 0=false from rfl];have N:=l.a.go t;have H:i.heap.size<Y.heap.size:=by rw[<-E];simp;omega
    first
     |(have z:_=false:=HZ.out.2;clear z;obtain⟨D,Q⟩:=aC ((j.alloc (.cells #[false,.slice T n6 c6] 46)).alloc (.cells #[false,.slice A7 n7 c7] 46)))
     |(obtain⟨D,Q⟩:=aC ((j.alloc (.cells #[true,.slice T n6 c6] 46)).alloc (.cells #[false,.slice A7 n7 c7] 46)))
    have y:Below j j D:=by rw[<-Q];exact bel
    have F7:=N.go y;have hnd:i.heap.size<j.heap.size:=by have:=t.size;omega
    have m0:=(y.cell (p:=⟨i,0,none⟩) hnd).trans ((t.cell (p:=⟨i,0,none⟩) H).trans N0);have m1:=(y.cell (p:=⟨i,1,none⟩) hnd).trans ((t.cell (p:=⟨i,1,none⟩) H).trans N1);have m2:=(y.frozen (p:=⟨i,0,none⟩) hnd).trans ((t.frozen (p:=⟨i,0,none⟩) H).trans N2);have m3:=(y.frozen (p:=⟨i,1,none⟩) hnd).trans ((t.frozen (p:=⟨i,1,none⟩) H).trans N3);have l0:=aib Q;have l1:=aic Q;have l2:=aie Q;have l3:=aif Q;have r0:=F7.b0;have r1:=F7.b1;have r2:=F7.b2;have r3:=F7.b3;have x0:=F7.f0;have x1:=F7.f1;have x2:=F7.f2;have x3:=F7.f3;have ah:w.heap.size+1<i.heap.size:=by have:=O.a.sz;have:=l.c.size;omega
    have ar:¬i.heap.size=j.heap.size:=pj;have au:¬j.heap.size=i.heap.size:=pj;have av:¬i.heap.size=w.heap.size+1:=pj;have aw:¬w.heap.size+1=i.heap.size:=pj;have ax:¬j.heap.size=w.heap.size+1:=pj;have ay:¬w.heap.size+1=j.heap.size:=pj;have G6:=Hd7 N ad t H y hnd ah;clear y F7 hnd ah;clear ad hs7 t N H aj)
  |(refine⟨bO,?_⟩;gi_at_call 183;have g:=o.out;clear g;refine Cn (L9 (a:=n) (b:=(g:Int)) (HB.out P (w.heap.size+1) o.out.1.bl o.out.1.sz (by have:=o.out.1.sz;omega)) (HN.a P (w.heap.size+1) o.out.1.bl pj) ⟨X,ng,cg,by rw[HY.c],(O.u.go o.b).go o.v⟩ HF.out.1 HY.d HGP.out HY.a) ?_;rintro e i ⟨u4,v4,rfl,⟨S,I,c4,rfl,am⟩,⟨A5,n5,c5,rfl,hs5⟩,hb4⟩;rw[HZ.out.1,show aG 0=false from rfl];have F4:=o.out.1.go hb4
    first
     |(have z:_=false:=HZ.out.1;clear z;obtain⟨Y,E⟩:=aC ((i.alloc (.cells #[false,.slice S I c4] 46)).alloc (.cells #[false,.slice A5 n5 c5] 46)))
     |(obtain⟨Y,E⟩:=aC ((i.alloc (.cells #[true,.slice S I c4] 46)).alloc (.cells #[false,.slice A5 n5 c5] 46)))
    have aa:Below i i Y:=by rw[<-E];exact bel
    have F5:=F4.go aa;have s3:=o.v.size;have ag:J.heap.size<P.heap.size:=by rw[<-ac];simp
    have az:=(aa.cell (p:=⟨J,0,none⟩) (by have:=hb4.size;show J.heap.size<_;omega)).trans ((hb4.cell (p:=⟨J,0,none⟩) ag).trans g0);have aA:=(aa.cell (p:=⟨J,1,none⟩) (by have:=hb4.size;show J.heap.size<_;omega)).trans ((hb4.cell (p:=⟨J,1,none⟩) ag).trans g1);have p0:=F5.a0;have p1:=F5.a1;have p2:=F5.a2;have p3:=F5.a3;have N0:=aib E;have N1:=aic E;have N2:=aie E;have N3:=aif E;have l:=h_ F5 am ((o.b.trans (o.v.mono o.b.size)).trans (hb4.mono (by have:=o.b.size;omega))) aa;clear am hs5 hb4 F4 F5 aa s3 ag)
  |(refine Cl 94 (Ei (z:=(g:Int)) ⟨X,ng,cg,by rw[HY.c],O.u⟩) ?_;rintro e J ⟨rfl,-,af⟩;have F3:=O.a.go af;obtain⟨P,ac⟩:=aC (J.alloc (.cells #[false,.slice X ng cg] 46));have ae:Below J J P:=by rw[<-ac];exact bel
    have L:=F3.go ae;have g0:P.cell? ⟨J,0,none⟩=some (.bool false):=by rw[<-ac];simp[go_sem]
    have g1:P.cell? ⟨J,1,none⟩=some (.slice X ng cg):=by rw[<-ac];simp[go_sem]
    have u0:=L.a0;have u1:=L.a1;have u2:=L.a2;have u3:=L.a3;have o:=fB L af ae;clear af F3 ae L)
  |(refine Cl 139 (yH (a:=n) (b:=d) (HB.out W1 (w.heap.size+1) F.out.bl F.out.sz (by have:=F.out.sz;omega)) (HN.a W1 _ F.out.bl pj) (HN.u W1 _ F.out.bl pj) HF.out.1 HF.out.2) ?_;rintro e w2 ⟨u2,rfl,an,ak⟩;rw[HGE.out,HG.a];rw[HGE.out,HG.u]at an;obtain⟨X,ng,cg,rfl,al⟩:=an;rw[HY.c];have O:=Hd2 (F.out.go ak) al;clear al ak)
  |fail)
 obtain⟨N,ad,t,H,y,hnd,ah⟩:=G6.out;have b7:Below w w D:=N.bl.trans (y.mono N.bl.size);have ap:Below i i j:=l.w.trans (t.mono (cY H));have aq:=l.b.eu;have ao:Keeps (j.heap.size::i.heap.size::(w.heap.size+1)::M) j D:=bq y _
 have fin:∀(V:World) (x:Rt) (q:Bool),Keeps (j.heap.size::i.heap.size::(w.heap.size+1)::M) j V->Below w w V->(V.cell? ⟨w+1,0,none⟩=some (.bool false)/\V.cell? ⟨w+1,1,none⟩=some (.slice none 0 0)/\V.cell? ⟨w+1,2,none⟩=some (.bool false)/\V.cell? ⟨w+1,3,none⟩=some (.slice none 0 0))->
  eP n d=x->aG x.num=q->aG x.den=false->bG x.num=bG (n/(g:Int))->bG x.den=bG (d/(g:Int))->
  ∃C,(((V.setCell ⟨w+1,0,none⟩ q).setCell ⟨w+1,1,none⟩ (.slice S I c4)).setCell ⟨w+1,2,none⟩ false).setCell ⟨w+1,3,none⟩ (.slice T n6 c6)=C/\
   C.cell? ⟨w+1,0,none⟩=some (.bool q)/\C.cell? ⟨w+1,1,none⟩=some (.slice S I c4)/\C.cell? ⟨w+1,2,none⟩=some (.bool false)/\C.cell? ⟨w+1,3,none⟩=some (.slice T n6 c6)/\
   QW C M (.agg #[q,.slice S I c4,false,.slice T n6 c6]) (eP n d)/\Below w w C:=by
  intro V x q kV bV ⟨v0,v1,v2,v3⟩ hx sg1 sg2 mg1 mg2;have hA:=(((((l.b.less (M':=(w.heap.size+1)::M) (fun k K=>bE _ K)).more (b:=i) pD).keep (bq ap _)).more (b:=j) pD).keep kV).less (M':=(w.heap.size+1)::M) (fun k K=>bE _ (bE _ K));have hB:=((ad.more (b:=j) pD).keep kV).less (M':=(w.heap.size+1)::M) (fun k K=>bE _ (bE _ K));rw[<-mg1]at hA;rw[<-mg2]at hB;rw[hx];exact nN v0 v1 v2 v3 hA hB sg1 sg2 bV (ja _)
 have ai:eP n d=if d/(g:Int)<0 then⟨-(n/(g:Int)),-(d/(g:Int))⟩else⟨n/(g:Int),d/(g:Int)⟩:=HY.x
 have bN:∀x,Below w w ((D.setCell ⟨j,0,none⟩ false).setCell ⟨i,0,none⟩ x):=fun x=>(b7.setCell (p:=⟨j,0,none⟩) px _).setCell (p:=⟨i,0,none⟩) px _;have kN:∀x,Keeps (j.heap.size::i.heap.size::(w.heap.size+1)::M) j ((D.setCell ⟨j,0,none⟩ false).setCell ⟨i,0,none⟩ x):=fun x=>(ao.setCell (p:=⟨j,0,none⟩) (.inl po) _).setCell (p:=⟨i,0,none⟩) (.inl po) _;have G:∀x k v,k<4->D.cell? ⟨w+1,k,none⟩=some v->((D.setCell ⟨j,0,none⟩ false).setCell ⟨i,0,none⟩ x).cell? ⟨w+1,k,none⟩=some v:=fun x k v _ h=>by simp[go_sem,h,ar,au,av,aw,ax,ay]
 first
  |(have z:_=false:=HZ.out.2;have R:=z;unfold aG at R;obtain⟨C,ab,t0,t1,t2,t3,hQ,Z⟩:=fin D _ _ ao b7 ⟨r0,r1,r2,r3⟩ (ai.trans (if_neg (gp R))) HZ.out.1 z rfl rfl;rw[ab];exact⟨rfl,_,by simp[results,go_sem,t0,t1,t2,t3];rfl,_,rfl,by exact hQ,Z⟩)
  |(have z:_=true:=HZ.out.2;have R:=z;unfold aG at R;have sg:∀q,(!aG (n/(g:Int))&&decide (0<I))=q->aG (-(n/(g:Int)))=q:=fun q hq=>by rw[JA aq];exact hq
    have sd:aG (-(d/(g:Int)))=false:=by rw[JA rfl,z];rfl
    first
     |(have z1:_=false:=HZ.out.1;obtain⟨C,ab,t0,t1,t2,t3,hQ,Z⟩:=fin _ _ (decide (0<I)) (kN (decide (0<I))) (bN _) ⟨G _ 0 _ pj r0,G _ 1 _ pj r1,G _ 2 _ pj r2,G _ 3 _ pj r3⟩ (ai.trans (if_pos (cW R))) (sg _ (by rw[z1];rfl)) sd (tN _) (tN _);rw[ab];exact⟨rfl,_,by simp[results,go_sem,t0,t1,t2,t3];rfl,_,rfl,by exact hQ,Z⟩)
     |(have z1:_=true:=HZ.out.1;obtain⟨C,ab,t0,t1,t2,t3,hQ,Z⟩:=fin _ _ false (kN false) (bN _) ⟨G _ 0 _ pj r0,G _ 1 _ pj r1,G _ 2 _ pj r2,G _ 3 _ pj r3⟩ (ai.trans (if_pos (cW R))) (sg _ (by rw[z1];rfl)) sd (tN _) (tN _);rw[ab];exact⟨rfl,_,by simp[results,go_sem,t0,t1,t2,t3];rfl,_,rfl,by exact hQ,Z⟩))):p:=h
theorem Ej{k1 c1 k2 c2:Nat}{n d:Int}(hM:b_ M w)(hx:Sl Int w M A k1 c1 (ints (bG n)))(hy:Sl Int w M B k2 c2 (ints (bG d)))(fn:fits n=true)(fd:fits d=true)(h0:d≠0):
 Calls prog 136 #[.agg #[.bool (aG n),.slice A k1 c1,.bool (aG d),.slice B k2 c2]] w fun e w'=>∃u,e=.returned u/\QW w' M u (eP n d)/\Below w w w':=by
 refine wid ?_;have Z8:0<Int.gcd n d:=Int.gcd_pos_iff.2 (.inr h0);have hd1:(Int.gcd n d:Int)∣n:=Int.gcd_dvd_left ..;have hd2:(Int.gcd n d:Int)∣d:=Int.gcd_dvd_right ..;have z1:=adp hd1 Z8;have z2:=adp hd2 Z8;have y1:=QH hd1;have y2:=QH hd2;have z3:aG (Int.gcd n d:Int)=false:=cE pj;have hgf:=tK fn fd;have hlow:eP n d=if d/(Int.gcd n d:Int)<0 then⟨-(n/(Int.gcd n d:Int)),-(d/(Int.gcd n d:Int))⟩else⟨n/(Int.gcd n d:Int),d/(Int.gcd n d:Int)⟩:=rfl
 generalize hge:Int.gcd n d=g at*
 have HGE:=Hd hge;have HG:=Hd2 (nJ hgf) (nK hgf);have HY:=oK y1 y2 z3 hgf hlow;have HGP:=Hd (show(0:Int)<(g:Int) by omega);have HF:=Hd2 fn fd;obtain⟨q1,hq1⟩:=aC (aG n);obtain⟨q2,hq2⟩:=aC (aG d);rw[hq1]at z1;rw[hq2]at z2;rw[hq1,hq2];have HZ:=Hd2 z1 z2;have X:=oK hx hy hM hq1 hq2;obtain⟨W1,hW1⟩:=aC ((w.alloc (.cells #[q1,.slice A k1 c1,q2,.slice B k2 c2] 187)).alloc (.cells #[false,.slice none 0 0,false,.slice none 0 0] 48));have F1:F6 w W1 q1 q2 (.slice A k1 c1) (.slice B k2 c2):=by rw[<-hW1];exact F6.start w _ _ _ _
 have F:=Hd F1;have e0:=F1.a0;have e1:=F1.a1;have e2:=F1.a2;have e3:=F1.a3;have hn:∀(W:World) (b:Nat),Below w w W->w.heap.size<=b->ZV W (b::(w.heap.size+1)::M) (.agg #[q1,.slice A k1 c1]) n:=fun W b hb hle=>⟨A,k1,c1,by rw[hq1],(((hx.more (b:=w+1) pj).more (b:=b) hle).keep (bq hb _))⟩;have hd:∀(W:World) (b:Nat),Below w w W->w.heap.size<=b->ZV W (b::(w.heap.size+1)::M) (.agg #[q2,.slice B k2 c2]) d:=fun W b hb hle=>⟨B,k2,c2,by rw[hq2],(((hy.more (b:=w+1) pj).more (b:=b) hle).keep (bq hb _))⟩;have HN:=Hd2 hn hd;have hB:∀(W:World) (b:Nat),Below w w W->w.heap.size+2<=W.heap.size->b<W.heap.size->b_ (b::(w.heap.size+1)::M) W:=by
  intro W b hb hs hle k hk;simp only[cD]at hk;rcases hk with rfl|rfl|hk;·exact hle
  ·omega
  have:=hM k hk;omega
 have HB:=Hd hB;clear hx hy hM F1 fn fd hq1 hq2 hgf z1 z2 z3 y1 y2 hlow hd1 hd2 Z8 hn hd hB hge;clear h0;cases q1<;>cases q2<;>exact aii
structure Bx(w W:World)(q1 q2:Bool)(v1 v2:Value):Prop where
 a0:W.cell? ⟨w,0,none⟩=some (.bool q1)
 a1:W.cell? ⟨w,1,none⟩=some v1
 a2:W.cell? ⟨w,2,none⟩=some (.bool q2)
 a3:W.cell? ⟨w,3,none⟩=some v2
 bl:Below w w W
 sz:w.heap.size+1<=W.heap.size
theorem Bx.go(h:Bx w W q1 q2 v1 v2)(hb:Below W W W'):Bx w W' q1 q2 v1 v2:=by have hs:=h.sz;have c:∀(o:Nat) (u:Value),W.cell? ⟨w,o,none⟩=some u->W'.cell? ⟨w,o,none⟩=some u:=fun o u i=>(hb.cell (p:=⟨w,o,none⟩) (show w.heap.size<_ by omega)).trans i;exact⟨c _ _ h.a0,c _ _ h.a1,c _ _ h.a2,c _ _ h.a3,h.bl.trans (hb.mono h.bl.size),by have:=hb.size;omega⟩
theorem Bx.start(w:World)(q1 q2:Bool)(v1 v2:Value):Bx w (w.alloc (.cells #[q1,v1,q2,v2] 48)) q1 q2 v1 v2:=⟨pB,pB,pB,pB,by exact bel,po⟩
def qM(b:Bool):Int:=if b then 0 else 100
theorem QI(h:Sl Int w M A n c (ints (bC g)))(h1:n=1):∃(b o d:Nat),A=some ⟨b,o,none⟩/\w.cell? ⟨b,o,none⟩=some (.int .i64 (d:Int))/\d=g:=by
 obtain⟨b,o,d,rfl,K,-,i,-⟩:=h.mG (aO g) (k:=0) pj;have j:=h.eu;rw[h1]at j;refine⟨b,o,d,rfl,K,?_⟩;have e:bC g= [d]:=by
  match hg:bC g,j,i with
  | [x],_,i=>exact gT (fun y=> [y]) (fk i)
 rw[<-bI g,e];simp[val]
theorem Em{d:Nat}(hM:b_ M w)(hx:Sl Int w M A n c l1)(hy:Sl Int w M B m d l2):
 CB 93 #[.agg #[p,.slice A n c,q,.slice B m d]] (.int .i64 (qM (dF ((p,l1),(q,l2))))) w:=by
 refine wid ?_;obtain⟨W1,al⟩:=aC (w.alloc (.cells #[p,.slice A n c,q,.slice B m d] 48));have F1:Bx w W1 p q (.slice A n c) (.slice B m d):=by rw[<-al];exact Bx.start w _ _ _ _
 have F:=Hd F1;have e0:=F1.a0;have e1:=F1.a1;have e2:=F1.a2;have e3:=F1.a3;have X:=fB hx hy hM;clear hx hy hM F1;by_cases aa:gZ (p,l1)=true
 ·have O:=Hd (show rJ (gZ (p,l1))=0 by rw[aa];rfl);by_cases ab:gZ (q,l2)=true
  ·have EX:=Hd (show rJ (gZ (q,l2))=0 by rw[ab];rfl);obtain⟨y,YL,ad⟩:=(nU _).1 aa;obtain⟨j,YM,ae⟩:=(nU _).1 ab;have ep:aG y=p:=(gT Prod.fst YL).symm;have eq:aG j=q:=(gT Prod.fst YM).symm;have ai:ints (bG y)=l1:=(gT Prod.snd YL).symm;have aj:ints (bG j)=l2:=(gT Prod.snd YM).symm;have af:DT (p,l1)=y:=by rw[YL,nG]
   have ag:DT (q,l2)=j:=by rw[YM,nG]
   have ah:=tK ad ae;have HG:=Hd2 (nJ ah) (nK ah);have P:=Hd2 ad ae;have E:=h_ ep eq ai aj;have HD:=Hd2 af ag;have WL:dF ((p,l1),(q,l2))=(decide (0<j)&&decide (Int.gcd y j=1)):=by simp[dF,aa,ab,af,ag]
   have Z9:=Hd WL;clear WL ad ae ah YL YM ep eq ai aj af ag;by_cases hp:0<j
   ·have J:=Hd (show decide (0<j)=true from cx hp);have ac:=Hd (show bG (Int.gcd y j:Int)=bC (Int.gcd y j) by simp[bG]);by_cases L:Int.gcd y j=1
    ·have G:=Hd (show qM (dF ((p,l1),(q,l2)))=0 by rw[Z9.out,J.out,L];rfl);have HL:=Hd (show(bG (Int.gcd y j:Int)).length=1 by rw[ac.out,L,iP pj,show 1/BB=0 from rfl,bU];rfl);have Z4:=Hd L;clear L;refine ent func93 ntmps93 ?_
     gi_wp2_with (first
      |(refine Cl 138 (nM (z:=j) (M:=M) ⟨B,m,d,by rw[E.b],by rw[E.w];exact((X.b.go F.out.bl).go i.u).go D.out.2⟩) ?_;rintro e w4 ⟨rfl,hb4⟩;rw[J.out];have F4:=D.out.1.go hb4;have o0:=F4.a0;have o1:=F4.a1;have o2:=F4.a2;have o3:=F4.a3;have C:=Hd2 F4 hb4;clear F4 hb4)
      |(refine⟨bO,?_⟩;gi_at_call 137;have g:=i.out;clear g;refine Cn (eF B m d q l2 _ ((X.b.go F.out.bl).go i.u)) ?_;rintro e w3 ⟨rfl,t⟩;rw[EX.out];have F3:=i.a.go t;have y0:=F3.a0;have y1:=F3.a1;have y2:=F3.a2;have y3:=F3.a3;have D:=Hd2 F3 t;clear t F3)
      |(refine Cl 137 (eF A n c p l1 _ (X.a.go F.out.bl)) ?_;rintro e w2 ⟨rfl,o⟩;rw[O.out];have l:=F.out.go o;have u0:=l.a0;have u1:=l.a1;have u2:=l.a2;have u3:=l.a3;have i:=Hd2 l o;clear l o)
      |(refine Cl 139 (yH (a:=y) (b:=j) (fun k Z=>bX (X.v k Z) C.a.bl.size) ⟨A,n,c,by rw[E.a],by rw[E.c];exact X.a.go C.a.bl⟩ ⟨B,m,d,by rw[E.b],by rw[E.w];exact X.b.go C.a.bl⟩ P.a P.u) ?_;rintro e H ⟨u5,rfl,N,K⟩;rw[HG.a];rw[HG.u]at N;obtain⟨Ag,ng,cg,rfl,hs5⟩:=N;rw[show aG (Int.gcd y j:Int)=false from cE pj];have Q:ng=1:=by rw[<-hs5.eu];exact HL.out
        obtain⟨R,og,S,rfl,T,Y⟩:=QI (g:=Int.gcd y j) (by have h:=hs5;rw[ac.out]at h;exact h) Q;subst Q;have ak:(H.alloc (.cells #[false,.slice (some ⟨R,og,none⟩) 1 cg] 46)).cell? ⟨R,og,none⟩=some (.int .i64 (S:Int)):=(((bL H H).alloc pD _).cell (bw H _ T)).trans T;obtain rfl:S=1:=Y.trans Z4.out;clear Y hs5;have I:=Hd (C.a.go K);clear K))
     exact ND
    have G:=Hd (show qM (dF ((p,l1),(q,l2)))=100 by rw[Z9.out,J.out,cE L];rfl);by_cases hL:(bG (Int.gcd y j:Int)).length=1
    ·have HL:=Hd hL;have Z4:=Hd L;clear L hL;refine ent func93 ntmps93 ?_
     gi_wp2_with (first
      |(refine Cl 138 (nM (z:=j) (M:=M) ⟨B,m,d,by rw[E.b],by rw[E.w];exact((X.b.go F.out.bl).go i.u).go D.out.2⟩) ?_;rintro e w4 ⟨rfl,hb4⟩;rw[J.out];have F4:=D.out.1.go hb4;have o0:=F4.a0;have o1:=F4.a1;have o2:=F4.a2;have o3:=F4.a3;have C:=Hd2 F4 hb4;clear F4 hb4)
      |(refine⟨bO,?_⟩;gi_at_call 137;have g:=i.out;clear g;refine Cn (eF B m d q l2 _ ((X.b.go F.out.bl).go i.u)) ?_;rintro e w3 ⟨rfl,t⟩;rw[EX.out];have F3:=i.a.go t;have y0:=F3.a0;have y1:=F3.a1;have y2:=F3.a2;have y3:=F3.a3;have D:=Hd2 F3 t;clear t F3)
      |(refine Cl 137 (eF A n c p l1 _ (X.a.go F.out.bl)) ?_;rintro e w2 ⟨rfl,o⟩;rw[O.out];have l:=F.out.go o;have u0:=l.a0;have u1:=l.a1;have u2:=l.a2;have u3:=l.a3;have i:=Hd2 l o;clear l o)
      |(refine Cl 139 (yH (a:=y) (b:=j) (fun k Z=>bX (X.v k Z) C.a.bl.size) ⟨A,n,c,by rw[E.a],by rw[E.c];exact X.a.go C.a.bl⟩ ⟨B,m,d,by rw[E.b],by rw[E.w];exact X.b.go C.a.bl⟩ P.a P.u) ?_;rintro e H ⟨u5,rfl,N,K⟩;rw[HG.a];rw[HG.u]at N;obtain⟨Ag,ng,cg,rfl,hs5⟩:=N;rw[show aG (Int.gcd y j:Int)=false from cE pj];have Q:ng=1:=by rw[<-hs5.eu];exact HL.out
        obtain⟨R,og,S,rfl,T,Y⟩:=QI (g:=Int.gcd y j) (by have h:=hs5;rw[ac.out]at h;exact h) Q;subst Q;have ak:(H.alloc (.cells #[false,.slice (some ⟨R,og,none⟩) 1 cg] 46)).cell? ⟨R,og,none⟩=some (.int .i64 (S:Int)):=(((bL H H).alloc pD _).cell (bw H _ T)).trans T;have am:¬S=1:=fun e=>Z4.out (Y.symm.trans e);clear Y hs5;have I:=Hd (C.a.go K);clear K))
     exact ND
    have HL:=Hd hL;clear L hL;refine ent func93 ntmps93 ?_
    gi_wp2_with (first
     |(refine Cl 138 (nM (z:=j) (M:=M) ⟨B,m,d,by rw[E.b],by rw[E.w];exact((X.b.go F.out.bl).go i.u).go D.out.2⟩) ?_;rintro e w4 ⟨rfl,hb4⟩;rw[J.out];have F4:=D.out.1.go hb4;have o0:=F4.a0;have o1:=F4.a1;have o2:=F4.a2;have o3:=F4.a3;have C:=Hd2 F4 hb4;clear F4 hb4)
     |(refine⟨bO,?_⟩;gi_at_call 137;have g:=i.out;clear g;refine Cn (eF B m d q l2 _ ((X.b.go F.out.bl).go i.u)) ?_;rintro e w3 ⟨rfl,t⟩;rw[EX.out];have F3:=i.a.go t;have y0:=F3.a0;have y1:=F3.a1;have y2:=F3.a2;have y3:=F3.a3;have D:=Hd2 F3 t;clear t F3)
     |(refine Cl 137 (eF A n c p l1 _ (X.a.go F.out.bl)) ?_;rintro e w2 ⟨rfl,o⟩;rw[O.out];have l:=F.out.go o;have u0:=l.a0;have u1:=l.a1;have u2:=l.a2;have u3:=l.a3;have i:=Hd2 l o;clear l o)
     |(refine Cl 139 (yH (a:=y) (b:=j) (fun k Z=>bX (X.v k Z) C.a.bl.size) ⟨A,n,c,by rw[E.a],by rw[E.c];exact X.a.go C.a.bl⟩ ⟨B,m,d,by rw[E.b],by rw[E.w];exact X.b.go C.a.bl⟩ P.a P.u) ?_;rintro e H ⟨u5,rfl,N,K⟩;rw[HG.a];rw[HG.u]at N;obtain⟨Ag,ng,cg,rfl,hs5⟩:=N;rw[show aG (Int.gcd y j:Int)=false from cE pj];have Q:¬ng=1:=fun e=>HL.out (by rw[hs5.eu,e]);clear hs5;have I:=Hd (C.a.go K);clear K))
    exact ND
   have J:=Hd (show decide (0<j)=false from cE hp);have G:=Hd (show qM (dF ((p,l1),(q,l2)))=100 by rw[Z9.out,J.out];rfl);refine ent func93 ntmps93 ?_
   gi_wp2_with (first
    |(refine Cl 138 (nM (z:=j) (M:=M) ⟨B,m,d,by rw[E.b],by rw[E.w];exact((X.b.go F.out.bl).go i.u).go D.out.2⟩) ?_;rintro e w4 ⟨rfl,hb4⟩;rw[J.out];have F4:=D.out.1.go hb4;have o0:=F4.a0;have o1:=F4.a1;have o2:=F4.a2;have o3:=F4.a3;have C:=Hd2 F4 hb4;clear F4 hb4)
    |(refine⟨bO,?_⟩;gi_at_call 137;have g:=i.out;clear g;refine Cn (eF B m d q l2 _ ((X.b.go F.out.bl).go i.u)) ?_;rintro e w3 ⟨rfl,t⟩;rw[EX.out];have F3:=i.a.go t;have y0:=F3.a0;have y1:=F3.a1;have y2:=F3.a2;have y3:=F3.a3;have D:=Hd2 F3 t;clear t F3)
    |(refine Cl 137 (eF A n c p l1 _ (X.a.go F.out.bl)) ?_;rintro e w2 ⟨rfl,o⟩;rw[O.out];have l:=F.out.go o;have u0:=l.a0;have u1:=l.a1;have u2:=l.a2;have u3:=l.a3;have i:=Hd2 l o;clear l o)
    |(refine⟨bO,?_⟩))
   go_ret;exact⟨by rw[G.out];rfl,C.a.bl⟩
  have EX:=Hd (show rJ (gZ (q,l2))=90 by simp[ab,rJ]);have G:=Hd (show qM (dF ((p,l1),(q,l2)))=100 by simp[dF,ab,qM]);refine ent func93 ntmps93 ?_
  gi_wp2_with (first
   |(refine⟨bO,?_⟩;gi_at_call 137;have g:=i.out;clear g;refine Cn (eF B m d q l2 _ ((X.b.go F.out.bl).go i.u)) ?_;rintro e w3 ⟨rfl,t⟩;rw[EX.out];have D:=Hd (i.a.go t);clear t)
   |(refine Cl 137 (eF A n c p l1 _ (X.a.go F.out.bl)) ?_;rintro e w2 ⟨rfl,o⟩;rw[O.out];have l:=F.out.go o;have u0:=l.a0;have u1:=l.a1;have u2:=l.a2;have u3:=l.a3;have i:=Hd2 l o;clear l o)
   |(refine⟨bO,?_⟩))
  go_ret;exact⟨by rw[G.out];rfl,D.out.bl⟩
 ·have O:=Hd (show rJ (gZ (p,l1))=90 by simp[aa,rJ]);have G:=Hd (show qM (dF ((p,l1),(q,l2)))=100 by simp[dF,aa,qM]);refine ent func93 ntmps93 ?_
  gi_wp2_with (first
   |(refine Cl 137 (eF A n c p l1 _ (X.a.go F.out.bl)) ?_;rintro e w2 ⟨rfl,o⟩;rw[O.out];have l:=F.out.go o;have u0:=l.a0;have u1:=l.a1;have u2:=l.a2;have u3:=l.a3;have i:=Hd2 l o;clear l o)
   |(refine⟨bO,?_⟩))
  go_ret;exact⟨by rw[G.out];rfl,i.a.bl⟩
theorem Sl.aik{xs:List fC}(h:Sl fC w M A n c xs){k:Nat}(hk:xs[k]?=some ((p,l1),(q,l2))):
 ∃b o A1 n1 c1 A2 n2 c2,A=some ⟨b,o,none⟩/\w.cell? ⟨b,o+k*4,none⟩=some (.bool p)/\w.cell? ⟨b,o+k*4+1,none⟩=some (.slice A1 n1 c1)/\w.cell? ⟨b,o+k*4+2,none⟩=some (.bool q)/\w.cell? ⟨b,o+k*4+3,none⟩=some (.slice A2 n2 c2)/\Sl Int w M A1 n1 c1 l1/\Sl Int w M A2 n2 c2 l2:=by
 obtain⟨b,o,C,rfl,u,i⟩:=h.get hk;obtain⟨y,D,rfl,⟨t,E,rfl,j,A1,n1,c1,rfl,F⟩,⟨ds2,fs2,rfl,l,A2,n2,c2,rfl,h6⟩⟩:=u;have j:t= [.bool p]:=j;have l:ds2= [.bool q]:=l;subst j;subst l;refine⟨b,o,A1,n1,c1,A2,n2,c2,rfl,?_,?_,?_,?_,F,h6⟩;·have:=i.2 0 p rfl;exact this
 ·have:=i.2 1 (.slice A1 n1 c1) rfl;exact this
 ·have:=i.2 2 q rfl;exact this
 ·have:=i.2 3 (.slice A2 n2 c2) rfl;exact this
theorem Tv{r:Rt}(h:r.ok):dF (jd r)=true:=(zx _).2 ⟨r,h,rfl⟩
theorem uO(A:Option Addr)(n c:Nat)(zs:List Rt)(w:World)(hM:b_ M w)(hx:Sl fC w M A n c (zs.map jd))(hz:∀z,z∈zs->z.ok):
 CB 46 #[.slice A n c] (.tuple #[]) w:=by
 refine wid ?_;have hs:=hx.small;have t:zs.length=n:=by have:=hx.len;simpa using this
 have H:=Hd hx;have HZ:=Hd hz;have HL:=Hd t;have HM:=Hd hM;clear hx hz t hM;refine ent func46 ntmps46 ?_;gi_wp2;gi_loopw[6] (fun i wr=>∃k:Nat,k<=n/\i=k/\Below w w wr) (fun i _=>n-(intOf i).toNat);case atStart=>exact⟨0,cf _,rfl,bL _ _⟩
 case round=>
  obtain⟨k,X,rfl,hb⟩:=hrel;by_cases I:k<n
  ·obtain⟨z,hz⟩:=dW zs k (by rw[HL.out];exact I);obtain⟨b,o,K,Y,N,L,Z,Q,rfl,O,P,R,T,y,C⟩:=(H.out.keep (bq hb M)).aik (k:=k) (p:=aG z.num) (l1:=ints (bG z.num)) (q:=aG z.den) (l2:=ints (bG z.den)) (by rw[cM,hz];rfl);have S:=Hd2 y C;have E:=Hd (show qM (dF ((aG z.num,ints (bG z.num)),(aG z.den,ints (bG z.den))))=0 by rw[show((aG z.num,ints (bG z.num)),(aG z.den,ints (bG z.den)))=jd z from rfl,Tv (HZ.out z (bh hz))];rfl);generalize aG z.num=p at*;generalize aG z.den=q at*;clear y C hz
   gi_wp2_with (first
    |(refine Cl 92 (yF _ _) ?_;rintro e J ⟨rfl,rfl⟩)
    |(refine Cl 93 (Em (l1:=ints (bG z.num)) (l2:=ints (bG z.den)) (M:=M) (fun j G=>by have:=HM.out j G;have:=hb.size;simp;omega) (S.a.go (by exact bel)) (S.u.go (by exact bel))) ?_;rintro e w2 ⟨rfl,l⟩;rw[E.out];have D:=Hd l;clear l)
    |fail)
   have F:Below w w J:=(hb.alloc hb.size _).trans (D.out.mono (by simp;have:=hb.size;omega));exact⟨⟨k+1,pj,by go_num,F⟩,by simp[intOf];omega⟩
  ·gi_wp2;go_end0;exact⟨rfl,hb⟩
theorem WM{MM:List Nat}{b be:Nat}{d:Nat}{u4:Value}(h0:V.cell? ⟨b,0,none⟩=some u0)(h1:V.cell? ⟨b,1,none⟩=some u1)(h2:V.cell? ⟨b,2,none⟩=some u2)(h3:V.cell? ⟨b,3,none⟩=some u3)(h4:V.cell? ⟨be,0,none⟩=some u4)
 (hQ:QW V MM (.agg #[q,.slice A n c,r,.slice B m d]) x) (hm:∀k,k∈M->k∈MM) (hbm:b∈MM) (hem:be∈MM) (hne:be≠b) (hb:Below s w V) (hsb:s<=b) (hse:s<=be):
 ∃wF,((((V.setCell ⟨b,0,none⟩ q).setCell ⟨b,1,none⟩ (.slice A n c)).setCell ⟨b,2,none⟩ r).setCell ⟨b,3,none⟩ (.slice B m d)).setCell ⟨be,0,none⟩ (.int .i64 0)=wF/\
  wF.cell? ⟨b,0,none⟩=some (.bool q)/\wF.cell? ⟨b,1,none⟩=some (.slice A n c)/\wF.cell? ⟨b,2,none⟩=some (.bool r)/\wF.cell? ⟨b,3,none⟩=some (.slice B m d)/\wF.cell? ⟨be,0,none⟩=some (.int .i64 0)/\
  QW wF M (.agg #[q,.slice A n c,r,.slice B m d]) x/\Below s w wF:=by
 have l:=(((((cG MM V).setCell (p:=⟨b,0,none⟩) (.inl hbm) q).setCell (p:=⟨b,1,none⟩) (.inl hbm) (.slice A n c)).setCell (p:=⟨b,2,none⟩) (.inl hbm) r).setCell (p:=⟨b,3,none⟩) (.inl hbm) (.slice B m d)).setCell (p:=⟨be,0,none⟩) (.inl hem) (.int .i64 0);have j:¬b=be:=fun e=>hne e.symm;have i:¬be=b:=hne;refine⟨_,rfl,?_,?_,?_,?_,?_,?_,?_⟩;·simp[go_sem,h0,h1,h2,h3,h4,j,i]
 ·simp[go_sem,h0,h1,h2,h3,h4,j,i]
 ·simp[go_sem,h0,h1,h2,h3,h4,j,i]
 ·simp[go_sem,h0,h1,h2,h3,h4,j,i]
 ·simp[go_sem,h0,h1,h2,h3,h4,j,i]
 ·obtain⟨o,n',u,t,C,y,e,hs,X⟩:=hQ;exact⟨o,n',u,t,C,y,e,(hs.keep l).less hm,(X.keep l).less hm⟩
 ·exact((((hb.setCell (p:=⟨b,0,none⟩) hsb _).setCell (p:=⟨b,1,none⟩) hsb _).setCell (p:=⟨b,2,none⟩) hsb _).setCell (p:=⟨b,3,none⟩) hsb _).setCell (p:=⟨be,0,none⟩) hse _
structure F7(w W:World)(q1 q2:Bool)(v1 v2:Value):Prop where
 a0:W.cell? ⟨w,0,none⟩=some (.bool q1)
 a1:W.cell? ⟨w,1,none⟩=some v1
 a2:W.cell? ⟨w+1,0,none⟩=some (.bool q2)
 a3:W.cell? ⟨w+1,1,none⟩=some v2
 b0:W.cell? ⟨w+1+1,0,none⟩=some (.bool false)
 b1:W.cell? ⟨w+1+1,1,none⟩=some (.slice none 0 0)
 b2:W.cell? ⟨w+1+1,2,none⟩=some (.bool false)
 b3:W.cell? ⟨w+1+1,3,none⟩=some (.slice none 0 0)
 e0:W.cell? ⟨w+1+1+1,0,none⟩=some (.int .i64 0)
 f0:W.frozen? ⟨w+1+1,0,none⟩=false
 f1:W.frozen? ⟨w+1+1,1,none⟩=false
 f2:W.frozen? ⟨w+1+1,2,none⟩=false
 f3:W.frozen? ⟨w+1+1,3,none⟩=false
 fe:W.frozen? ⟨w+1+1+1,0,none⟩=false
 bl:Below w w W
 sz:w.heap.size+4<=W.heap.size
theorem F7.go(h:F7 w W q1 q2 v1 v2)(hb:Below W W W'):F7 w W' q1 q2 v1 v2:=by have hs:=h.sz;have c:∀(k o:Nat) (u:Value),k<w.heap.size+4->W.cell? ⟨k,o,none⟩=some u->W'.cell? ⟨k,o,none⟩=some u:=fun k o u j i=>(hb.cell (p:=⟨k,o,none⟩) (show k<_ by omega)).trans i;have f:∀(k o:Nat),k<w.heap.size+4->W.frozen? ⟨k,o,none⟩=false->W'.frozen? ⟨k,o,none⟩=false:=fun k o j i=>(hb.frozen (p:=⟨k,o,none⟩) (show k<_ by omega)).trans i;exact⟨c _ _ _ pj h.a0,c _ _ _ pj h.a1,c _ _ _ pj h.a2,c _ _ _ pj h.a3,c _ _ _ pj h.b0,c _ _ _ pj h.b1,c _ _ _ pj h.b2,c _ _ _ pj h.b3,c _ _ _ pj h.e0,f _ _ pj h.f0,f _ _ pj h.f1,f _ _ pj h.f2,f _ _ pj h.f3,f _ _ pj h.fe,h.bl.trans (hb.mono h.bl.size),by have:=hb.size;omega⟩
theorem F7.start(w:World)(q1 q2:Bool)(v1 v2:Value):
 F7 w ((((w.alloc (.cells #[q1,v1] 46)).alloc (.cells #[q2,v2] 46)).alloc (.cells #[false,.slice none 0 0,false,.slice none 0 0] 48)).alloc (.cells #[.int .i64 0] 32)) q1 q2 v1 v2:=
 ⟨pB,pB,pB,pB,pB,pB,pB,pB,pB,pB,pB,pB,pB,pB,by exact bel,po⟩
theorem ag1{n d:Int}(hM:b_ M w)(hn:ZV w M v1 n)(hd:ZV w M v2 d)(fn:fits n=true)(fd:fits d=true)(h0:d≠0):
 Calls prog 132 #[v1,v2] w fun e w'=>∃u,e=.returned (.tuple #[u,.int .i64 0])/\QW w' M u (eP n d)/\Below w w w':=by
 refine wid ?_;obtain⟨A,k1,c1,rfl,hx⟩:=hn;obtain⟨B,k2,c2,rfl,j⟩:=hd;have ac:0<k2:=by
  have hl:=j.eu;have:(bG d).length≠0:=by intro e;have:=jO.1 (de.1 e);omega
  omega
 have R:=Hd (show rJ (gZ (aG n,ints (bG n)))=0 by rw[show(aG n,ints (bG n))=jk n from rfl,j_ n fn];rfl);have EX:=Hd (show rJ (gZ (aG d,ints (bG d)))=0 by rw[show(aG d,ints (bG d))=jk d from rfl,j_ d fd];rfl)
 have T:=Hd (fun(W:World) (hb:Below w w W) (hs:w.heap.size+4<=W.heap.size)=>Ej (w:=W) (M:=(w+1+1)::(w.heap.size+1+1+1)::M) (n:=n) (d:=d) (A:=A) (B:=B) (k1:=k1) (k2:=k2) (c1:=c1) (c2:=c2)
  (by
    intro k i;simp only[cD]at i;rcases i with rfl|rfl|i;·omega
    ·omega
    have:=hM k i;omega)
  (((hx.more (b:=w+1+1+1) pj).more (b:=w+1+1) pj).keep (bq hb _))
  (((j.more (b:=w+1+1+1) pj).more (b:=w+1+1) pj).keep (bq hb _)) fn fd h0)
 have X:=Hd2 hx j;generalize aG n=q1 at*
 generalize aG d=q2 at*
 obtain⟨W1,aa⟩:=aC ((((w.alloc (.cells #[q1,.slice A k1 c1] 46)).alloc (.cells #[q2,.slice B k2 c2] 46)).alloc (.cells #[false,.slice none 0 0,false,.slice none 0 0] 48)).alloc (.cells #[.int .i64 0] 32));have F1:F7 w W1 q1 q2 (.slice A k1 c1) (.slice B k2 c2):=by rw[<-aa];exact F7.start w _ _ _ _
 have F:=Hd F1;have e0:=F1.a0;have e1:=F1.a1;have e2:=F1.a2;have e3:=F1.a3;clear hx j hM F1 fn fd h0;cases q1<;>cases q2
 all_goals(
 refine qj func132 rfl ntmps132 ?_
 gi_wp2_with (first
  |(refine Cl 136 (T.out _ C.out.bl C.out.sz) ?_;rintro e w4 ⟨u4,rfl,⟨o,K,D,t,J,E,rfl,N,O⟩,hb4⟩;have F4:=C.out.go hb4;obtain⟨P,H⟩:=aC (aG (eP n d).num);obtain⟨Q,I⟩:=aC (aG (eP n d).den);rw[H,I];have Y:=Hd (show QW w4 _ (.agg #[P,.slice o K D,Q,.slice t J E]) (eP n d)from⟨o,K,D,t,J,E,by rw[H,I],N,O⟩);have r0:=F4.b0;have r1:=F4.b1;have r2:=F4.b2;have r3:=F4.b3;have r5:=F4.e0;have x0:=F4.f0;have x1:=F4.f1;have x2:=F4.f2;have x3:=F4.f3;have x5:=F4.fe;have S:=Hd F4;clear N O hb4 F4 H I)
  |(refine Cl 92 (yF _ _) ?_;rintro e wn ⟨rfl,rfl⟩)
  |(refine⟨bO,?_⟩;gi_at_call 137;have g:=y.out;clear g;refine Cn (eF B k2 c2 _ (ints (bG d)) _ ((X.u.go F.out.bl).go y.u)) ?_;rintro e w3 ⟨rfl,L⟩;rw[EX.out];have F3:=y.a.go L;have y0:=F3.a0;have y1:=F3.a1;have y2:=F3.a2;have y3:=F3.a3;have C:=Hd F3;clear L F3)
  |(refine Cl 137 (eF A k1 c1 _ (ints (bG n)) _ (X.a.go F.out.bl)) ?_;rintro e w2 ⟨rfl,G⟩;rw[R.out];have l:=F.out.go G;have u0:=l.a0;have u1:=l.a1;have u2:=l.a2;have u3:=l.a3;have y:=Hd2 l G;clear l G)
  |fail)
 obtain⟨wF,ab,t0,t1,t2,t3,t5,hQ,Z⟩:=WM (M:=M) r0 r1 r2 r3 r5 Y.out (fun k i=>by simp[i]) po po pj S.out.bl pj pj;refine eS (f:=45) (args:=#[.pointer (some ⟨w+1+1+1,0,none⟩)]) po po pB (fun _ _=>bO) ?_;rw[ab];refine(kT ⟨w+1+1+1,0,none⟩ _).mono ?_;rintro e u' ad ⟨rfl,rfl,rfl⟩;refine⟨.tuple #[.agg #[P,.slice o K D,Q,.slice t J E],.int .i64 0],?_,_,rfl,hQ,Z⟩;simp[results,results132,go_sem,t0,t1,t2,t3,t5])
theorem En{n:Int}(h:i64 n):fits n=true:=by have i:(bC n.natAbs).length<=3:=BL (by unfold i64 at h;omega);exact cx (cF i pj)
structure F8(w W:World):Prop where
 b0:W.cell? ⟨w,0,none⟩=some (.bool false)
 b1:W.cell? ⟨w,1,none⟩=some (.slice none 0 0)
 b2:W.cell? ⟨w,2,none⟩=some (.bool false)
 b3:W.cell? ⟨w,3,none⟩=some (.slice none 0 0)
 f0:W.frozen? ⟨w,0,none⟩=false
 f1:W.frozen? ⟨w,1,none⟩=false
 f2:W.frozen? ⟨w,2,none⟩=false
 f3:W.frozen? ⟨w,3,none⟩=false
 bl:Below w w W
 sz:w.heap.size+1<=W.heap.size
theorem F8.go(h:F8 w W)(hb:Below W W W'):F8 w W':=by have hs:=h.sz;have c:∀(o:Nat) (u:Value),W.cell? ⟨w,o,none⟩=some u->W'.cell? ⟨w,o,none⟩=some u:=fun o u i=>(hb.cell (p:=⟨w,o,none⟩) (show w.heap.size<_ by omega)).trans i;have f:∀(o:Nat),W.frozen? ⟨w,o,none⟩=false->W'.frozen? ⟨w,o,none⟩=false:=fun o i=>(hb.frozen (p:=⟨w,o,none⟩) (show w.heap.size<_ by omega)).trans i;exact⟨c _ _ h.b0,c _ _ h.b1,c _ _ h.b2,c _ _ h.b3,f _ h.f0,f _ h.f1,f _ h.f2,f _ h.f3,h.bl.trans (hb.mono h.bl.size),by have:=hb.size;omega⟩
theorem F8.start(w:World):F8 w (w.alloc (.cells #[false,.slice none 0 0,false,.slice none 0 0] 48)):=⟨pB,pB,pB,pB,pB,pB,pB,pB,by exact bel,po⟩
theorem uP{n d:Int}(hM:b_ M w)(hn:i64 n)(hd:i64 d)(h0:d≠0):
 Calls prog 78 #[n,d] w fun e w'=>∃u,e=.returned (.tuple #[u,.int .i64 0])/\QW w' M u (eP n d)/\Below w w w':=by
 refine wid ?_;obtain⟨W1,S⟩:=aC (w.alloc (.cells #[false,.slice none 0 0,false,.slice none 0 0] 48));have F1:F8 w W1:=by rw[<-S];exact F8.start w
 have y:b_ (w.heap.size::M) W1:=by
  intro k l;have:=F1.sz;rcases cD.1 l with rfl|l;·omega
  have:=hM k l;omega
 have H:=h_ y hn hd h0;have F:=Hd F1;clear hM y hn hd h0 F1;refine ent func78 ntmps78 ?_
 gi_wp2_with (first
  |(refine Cl 132 (ag1 (M:=w::M) (n:=n) (d:=d) ((H.out.1.le i.u.size).le j.out.2.size) (ZV.go i.a j.out.2) j.out.1 (En H.b) (En H.c) H.w) ?_;rintro e w4 ⟨u4,rfl,⟨K,Y,P,L,X,Q,rfl,E,G⟩,hb4⟩;have F4:=((F.out.go i.u).go j.out.2).go hb4;obtain⟨Z,o⟩:=aC (aG (eP n d).num);obtain⟨r4,t⟩:=aC (aG (eP n d).den);rw[o,t];have R:=h_ E G o t;have r0:=F4.b0;have r1:=F4.b1;have r2:=F4.b2;have r3:=F4.b3;have x0:=F4.f0;have x1:=F4.f1;have x2:=F4.f2;have x3:=F4.f3;have N:=Hd F4;clear E G hb4 F4 o t)
  |(refine⟨bO,?_⟩;gi_at_call 133;have g:=i.out;clear g;refine Cn (Ih (M:=w::M) (H.out.1.le i.u.size) H.c) ?_;rintro e w3 ⟨u3,rfl,J,D⟩;have j:=Hd2 J D;clear J D)
  |(refine Cl 133 (Ih (M:=w::M) H.out.1 H.b) ?_;rintro e w2 ⟨u2,rfl,I,C⟩;have i:=Hd2 I C;clear I C)
  |fail)
 obtain⟨wF,T,t0,t1,t2,t3,hQ,O⟩:=nN r0 r1 r2 r3 R.a R.b R.c R.w N.out.bl pD;rw[T];refine⟨rfl,.tuple #[.agg #[Z,.slice K Y P,r4,.slice L X Q],.int .i64 0],?_,_,rfl,hQ,O⟩;simp[results,go_sem,t0,t1,t2,t3]
end
