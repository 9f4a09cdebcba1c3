/- Lemmas -/
import Derived.Deep.LoopGhost
import Derived.Test.YtfdmnogfflcllaaGreatDoorM06
import Derived.Test.YtfdmnogfflcllaaGreatDoorM05
set_option linter.all false
set_option maxRecDepth 100000
set_option maxHeartbeats 0
namespace Go.Proofs.YtfdmnogfflcllaaGreatDoor
open Go.Proofs.Tryz
theorem Bh{p:Prop}(h:p:=by
 have u:Below w w W:=(((bL w w).alloc pD _).alloc po _).trans (hb.mono px);refine LP (A:=A) (B:=B) (n:=n) (c:=c) (m:=m) (d:=d) i W ?_ ?_ (H.out.keep (bq u [])) (G.out.keep (bq u [])) (aO x) (aO y);·exact(hb.cell (p:=⟨w,0,none⟩) px).trans pB
 exact(hb.cell (p:=⟨w+1,0,none⟩) po).trans pB):p:=h
theorem EC{p:Prop}(h:p:=by
 clear v1 v2 T Y t1 t2 l1 l2;have k0:IntKind.i64.wrap ((n:Int)-(m:Int))=(n:Int)-(m:Int):=by rw[cA];omega
 refine sH func98 rfl ntmps98 ?_;gi_wp2;exact⟨_,by simp[results,go_sem],jL (E.out.symm.trans HZ.out),by exact bel⟩):p:=h
theorem EG{p:Prop}(h:p:=by gi_wp2;refine⟨((cG [w.heap.size+1] u).setCell (p:=⟨w+1,0,none⟩) (.inl po) _).to (by rw[ab.out];omega),⟨rfl,hbW2.setCell (p:=⟨w+1,0,none⟩) po _⟩,?_,by simp[x3]⟩;rw[<-HZ.out,E.out];exact cZ x2):p:=h
theorem ER{p:Prop}(h:p:=by
 subst C;have f:=p.out;rw[Hz z]at f;have u:=Hd f;clear f p z;gi_wp2;go_roundw;case rel=>exact⟨j,pj,by go_num,u.out,hb⟩
 case measure=>simp[intOf]):p:=h
theorem PS{p:Prop}(h:p:=by clear v1 v2 D C t1 t2 I J;refine ent func159 ntmps159 ?_;gi_wp2;go_ret;exact⟨jL (E.out.symm.trans HZ.out),bL _ _⟩):p:=h
theorem PU{p:Prop}(h:p:=by rw[T]at C;have J:=S.dr K hM P E pj D C u;have HD:=Hd J;clear S hb P C I u K E D T J;gi_wp2;go_ret;exact HD.out):p:=h
theorem P6{p:Prop}(h:p:=by exact⟨⟨i+1,_,pj,by go_num,J.a,J.u,aa.setCell (p:=⟨w,i+k,none⟩) pD _⟩,by simp[intOf];omega⟩):p:=h
theorem Xn{p:Prop}(h:p:=by clear f p;gi_wp2;go_ret;exact⟨0,rfl,cf _,by rw[fT];exact u.out,hb⟩):p:=h
theorem Xu{p:Prop}(h:p:=by exact⟨n,bj _,rfl,by rw[bR (by rw[H.out.eu];exact bj _)];rfl,bL _ _⟩):p:=h
theorem YT{p:Prop}(h:p:=by
 conv=>lhs;rw[show n+1=(n-k+1)+k by omega]
 rw[List.take_add]):p:=h
theorem Y5{p:Prop}(h:p:=by exact⟨0,_,cf _,rfl,P.f,P.out.2.2.2.2.2.2.1,P.out.2.2.2.2.2.2.2⟩):p:=h
variable {l us vs ws a b out q lo mid M N ms R rest rs Q:List Nat}{j x y u1 u0 v1 u2 v2 g head m i n k V r d c b1 b2 s v L over X:Nat}{t o owed:Int}{w w0 w':World}{A B:Option Addr}{F:List Int}
theorem drop_cons(h:l[j]?=some x):l.drop j=x::l.drop (j+1):=by have C:j<l.length:=(bu.1 h).1;rw[cL C];congr 1;exact(bu.1 h).2
theorem DZ(hx:l[j]?=some x)(hy:l[j+1]?=some y)(hl:l.length=j+2):val (l.drop j)=y*BB+x:=by rw[drop_cons hx,drop_cons hy,cB pj];simp only[val,mi,eB];rw[ke y BB,pc]
theorem Lr{z:Nat}(hx:l[j]?=some x)(hy:l[j+1]?=some y)(hz:l[j+2]?=some z)(hl:l.length=j+3):val (l.drop j)=(z*BB+y)*BB+x:=by rw[drop_cons hx,drop_cons hy,drop_cons hz,cB pj];simp only[val,mi,eB];rw[ke (z*BB+y) BB,ke z BB,gO,gO];omega
structure lZ(us vs:List Nat)(g:Nat):Prop where
 small:g<BB
 low:val us/val vs<=g
theorem ado(hu:Good us)(hv:Good vs)(h1:us[j+1]?=some u1)(h0:us[j+2]?=some u0)(hl:us.length=j+3)(hv1:vs[j+1]?=some v1)(hlv:vs.length=j+2)(hp:0<v1)(hW:val us<BB*val vs):
 lZ us vs (min ((u0*BB+u1)/v1) (BB-1)):=by
 have f:0<val vs:=by
  rcases eC (val vs)with e|e;·rw[e,mi]at hW;omega
  exact e
 refine⟨lf (Nat.min_le_right _ _) (Nat.sub_lt eX Nat.one_pos),?_⟩;have p:val us/val vs*val vs<=val us:=Nat.div_mul_le_self _ _;have a1:val us/val vs<BB:=(ld f).2 hW;obtain⟨b1,b2⟩:=lF hu (k:=j+1) pj;obtain⟨G,u⟩:=lF hv (k:=j+1) pj;rw[DZ h1 h0 pj]at b1 b2;rw[drop_cons hv1,cB pj]at G;simp only[val,mi,eB]at G;exact Nat.le_min.2 ⟨Lc p G b2 hp,Nat.le_sub_one_of_lt a1⟩
theorem OI(hu:Good us)(hv:Good vs)(h2:us[j]?=some u2)(h1:us[j+1]?=some u1)(h0:us[j+2]?=some u0)(hl:us.length=j+3)(hv2:vs[j]?=some v2)(hv1:vs[j+1]?=some v1)(hlv:vs.length=j+2)
 (hV0:0<val vs) (hg:lZ us vs g) (ht:(u0*BB+u1)*BB+u2<g*(v1*BB+v2)):lZ us vs (g-1):=by
 obtain⟨b1,b2⟩:=lF hu (k:=j) pj;obtain⟨G,e⟩:=lF hv (k:=j) pj;rw[Lr h2 h1 h0 hl]at b1 b2;rw[DZ hv2 hv1 hlv]at G e;have h:=OB G b2 ht;have f:val us/val vs<g:=(ld hV0).2 h;have:=hg.small;exact⟨pj,pj⟩
theorem OJ(hu:Good us)(hv:Good vs)(h2:us[j]?=some u2)(h1:us[j+1]?=some u1)(h0:us[j+2]?=some u0)(hl:us.length=j+3)(hv2:vs[j]?=some v2)(hv1:vs[j+1]?=some v1)(hlv:vs.length=j+2)
 (hp:0<v1) (hg:lZ us vs g) (ht:g*(v1*BB+v2)<=(u0*BB+u1)*BB+u2):g*val vs<=val us+val vs:=by
 obtain⟨b1,b2⟩:=lF hu (k:=j) pj;obtain⟨G,e⟩:=lF hv (k:=j) pj;rw[Lr h2 h1 h0 hl]at b1 b2;rw[DZ hv2 hv1 hlv]at G e;refine OC e b1 ht ?_;have:=hg.small;have:1*BB<=v1*BB:=dy _ hp;omega
theorem SN(hg:g<BB)(hv:v2<BB)(hh:g*v1<=head)(h:BB-1<head-g*v1):g*(v1*BB+v2)<=head*BB+u2:=by
 have e:g*(v1*BB+v2)=g*v1*BB+g*v2:=by rw[gO,gL]
 have p:g*v2<=BB*BB:=fS pj pj;have f:(g*v1+BB)*BB<=head*BB:=dy _ pj;rw[fY]at f;omega
theorem D5(hh:g*v1<=head):(head-g*v1)*BB+u2<g*v2↔head*BB+u2<g*(v1*BB+v2):=by
 have e:g*(v1*BB+v2)=g*v1*BB+g*v2:=by rw[gO,gL]
 have O:(head-g*v1)*BB=head*BB-g*v1*BB:=Nat.sub_mul ..;have f:g*v1*BB<=head*BB:=dy _ hh;omega
theorem zW{t:Nat}(hus:us=ws++ [t])(hlw:ws.length=vs.length)(hv:Good vs)(hV0:0<val vs)(hg:lZ us vs g)
 (hge:0<=(t:Int)+(aY ((List.range vs.length).map fun j=>(aB ws j:Int)-(g:Int)*(aB vs j:Int)) 0).2):
 g=val us/val vs/\val (aY ((List.range vs.length).map fun j=>(aB ws j:Int)-(g:Int)*(aB vs j:Int)) 0).1=val us%val vs/\(t:Int)+(aY ((List.range vs.length).map fun j=>(aB ws j:Int)-(g:Int)*(aB vs j:Int)) 0).2=0:=by
 have u:=Hq g hlw;obtain⟨J,f⟩:=ji ((List.range vs.length).map fun j=>(aB ws j:Int)-(g:Int)*(aB vs j:Int)) 0;rw[ck,gh]at f;have p:=jh _ J;rw[f]at p;have S:=jh vs hv;have I:val us=val ws+BB^vs.length*t:=by rw[hus,val_append,hlw];simp[val]
 generalize (aY ((List.range vs.length).map fun j=>(aB ws j:Int)-(g:Int)*(aB vs j:Int)) 0).2=o at*
 generalize val (aY ((List.range vs.length).map fun j=>(aB ws j:Int)-(g:Int)*(aB vs j:Int)) 0).1=m at*
 have K:((BB^vs.length:Nat):Int)=(BB:Int)^vs.length:=Int.natCast_pow ..;rw[<-K]at u;have C:(m:Int)+((BB^vs.length:Nat):Int)*((t:Int)+o)=(val us:Int)-(g:Int)*(val vs:Int):=by rw[mj,I,ki,eI];omega
 have O:0<=((BB^vs.length:Nat):Int)*((t:Int)+o):=Int.mul_nonneg pj hge;have D:g*val vs<=val us:=by have:((g*val vs:Nat):Int)=(g:Int)*(val vs:Int):=eI ..;omega
 have e:g=val us/val vs:=Nat.le_antisymm ((Nat.le_div_iff_mul_le hV0).2 D) hg.low;have E:=Nat.mod_add_div (val us) (val vs);have P:=k_ (val us) hV0;rw[<-e]at E;have G:(m:Int)+((BB^vs.length:Nat):Int)*((t:Int)+o)=((val us%val vs:Nat):Int):=by
  rw[C];have:((val vs*g:Nat):Int)=(g:Int)*(val vs:Int):=by rw[ke];exact eI ..
  omega
 obtain⟨H,z⟩:=Hr p pj G;exact⟨e,z,H⟩
theorem D6{t:Nat}(hus:us=ws++ [t])(hlw:ws.length=vs.length)(hv:Good vs)(QA:g*val vs<=val us+val vs){m:List Nat}
 (hmo:aY ((List.range vs.length).map fun j=>(aB ws j:Int)-(g:Int)*(aB vs j:Int)) 0=(m,o)) (hlt:(t:Int)+o<0):
 1<=g/\g-1=val us/val vs/\val (aY ((List.range vs.length).map fun j=>(aB m j:Int)+(aB vs j:Int)) 0).1=val us%val vs/\(t:Int)+o+(aY ((List.range vs.length).map fun j=>(aB m j:Int)+(aB vs j:Int)) 0).2=0:=by
 have u:=Hq g hlw;obtain⟨z,p⟩:=ji ((List.range vs.length).map fun j=>(aB ws j:Int)-(g:Int)*(aB vs j:Int)) 0;rw[ck,gh]at p;rw[hmo]at u z p;have D:=jh _ z;simp only at u z p D;rw[p]at D;have ab:=jh vs hv;have O:val us=val ws+BB^vs.length*t:=by rw[hus,val_append,hlw];simp[val]
 have P:=VL (ws:=m) (vs:=vs) p;obtain⟨T,E⟩:=ji ((List.range vs.length).map fun j=>(aB m j:Int)+(aB vs j:Int)) 0;rw[ck,gh]at E;have G:=jh _ T;rw[E]at G;generalize (aY ((List.range vs.length).map fun j=>(aB m j:Int)+(aB vs j:Int)) 0).2=o2 at*
 generalize val (aY ((List.range vs.length).map fun j=>(aB m j:Int)+(aB vs j:Int)) 0).1=n at*
 have W:((BB^vs.length:Nat):Int)=(BB:Int)^vs.length:=Int.natCast_pow ..;rw[<-W]at u P;have Z:((BB^vs.length:Nat):Int)*((t:Int)+o)=((BB^vs.length:Nat):Int)*(t:Int)+((BB^vs.length:Nat):Int)*o:=mj ..;have Y:((val us:Nat):Int)=(val ws:Int)+((BB^vs.length:Nat):Int)*(t:Int):=by rw[O,ki,eI]
 have h2:(val m:Int)+((BB^vs.length:Nat):Int)*((t:Int)+o)=(val us:Int)-(g:Int)*(val vs:Int):=pj;have h3:((BB^vs.length:Nat):Int)*((t:Int)+o)<=((BB^vs.length:Nat):Int)*(-1):=js pj pj;have H:((g*val vs:Nat):Int)=(g:Int)*(val vs:Int):=eI ..;have C:val us<g*val vs:=pj;have S:1<=g:=by
  rcases eC g with e|e;·subst e;simp at C
  exact e
 obtain⟨f,rfl⟩:∃f,g=f+1:=⟨g-1,pj⟩;rw[fY,fh]at QA C H;have I:val us=f*val vs+(val us-f*val vs):=pj;obtain⟨h6,h7⟩:=Jr I pj;have e2:((BB^vs.length:Nat):Int)*((t:Int)+o+o2)=((BB^vs.length:Nat):Int)*((t:Int)+o)+((BB^vs.length:Nat):Int)*o2:=mj ..;have J:(n:Int)+((BB^vs.length:Nat):Int)*((t:Int)+o+o2)=((val us-f*val vs:Nat):Int):=pj;obtain⟨K,aa⟩:=Hr G pj J;exact⟨S,pj,pj,K⟩
theorem D7(l:List Nat)(i:Nat):val (l.drop i)=aB l i+BB*val (l.drop (i+1)):=by
 by_cases h:i<l.length;·rw[cL h,val];simp[aB,List.getD,cd h]
 rw[cB pj,cB pj];simp[val,aB,List.getD,fW (show l.length<=i by omega)]
theorem fF(h:Good l)(i:Nat):aB l i<BB:=by
 unfold aB List.getD
 cases e:l[i]? with
 |none=>exact eX
 |some d=>exact h d (bh e)
def Lu(a b out:List Nat)(i:Nat)(owed:Int):Prop:=(val out:Int)+((BB^i:Nat):Int)*((val (a.drop i):Int)-(val (b.drop i):Int)-owed)=(val a:Int)-(val b:Int)/\out.length=i/\Good out/\0<=owed/\owed<=1
theorem OL(a b:List Nat):Lu a b [] 0 0:=⟨by simp[val],rfl,tu,pj,pj⟩
theorem Hw{n:Int}(ha:Good a)(hb:Good b)(h:Lu a b out i owed)(hn:n=(aB a i:Int)-(aB b i:Int)-owed)(hk:(k:Int)=if n<0 then n+(BB:Int)else n):
 Lu a b (out++ [k]) (i+1) (if n<0 then 1 else 0):=by
 obtain⟨e,f,u,C,D⟩:=h;have E:=fF ha i;have lb:=fF hb i;have z:k<BB:=by split at hk<;>omega
 refine⟨?_,by simp[f],zu u z,by split<;>omega,by split<;>omega⟩;rw[val_append,f,lR];rw[D7 a i,D7 b i]at e;simp only[val,mi,eB];rw[ki,eI,eI];rw[ki,ki,eI,eI]at e;generalize ((BB^i:Nat):Int)=p at*
 generalize (val (a.drop (i+1)):Int)=x at*
 generalize (val (b.drop (i+1)):Int)=y at*
 have H:(aB a i:Int)+(BB:Int)*x-((aB b i:Int)+(BB:Int)*y)-owed=(k:Int)+(BB:Int)*(x-y-(if n<0 then 1 else 0)):=by rw[Int.mul_sub,Int.mul_sub,hk];split<;>omega
 rw[H,mj,<-Int.mul_assoc]at e;omega
theorem VY(h:Lu a b out a.length owed)(hb:b.length<=a.length)(hle:val b<=val a):val out=val a-val b/\Good out:=by
 obtain⟨e,u,f,D,E⟩:=h;rw[cB pD,cB hb]at e;have C:=jh _ f;rw[u]at C;simp only[val]at e;generalize BB^a.length=p at*
 have z:owed=0:=by
  by_cases c:owed=0;·exact c
  have:owed=1:=pj;subst this;rw[show((0:Nat):Int)-((0:Nat):Int)-1= -1 from rfl]at e;omega
 subst z;refine⟨?_,f⟩;rw[show((0:Nat):Int)-((0:Nat):Int)-0=0 from rfl]at e;omega
theorem drop_set(h:i<l.length)(z:Nat):(l.set i z).drop i=z::l.drop (i+1):=by rw[cL (by simpa using h),List.drop_set_of_lt pj];simp
def LD(a q:List Nat)(V i r:Nat):Prop:=val (a.drop i)=val (q.drop i)*V+r/\r<V/\q.length=a.length/\Good q
theorem LG(ha:Good a)(h:LD a q V (i+1) r)(hi:i<a.length):
 LD a (q.set i ((r*BB+aB a i)/V)) V i ((r*BB+aB a i)%V)/\(r*BB+aB a i)/V<BB:=by
 obtain⟨z,C,E,G⟩:=h;obtain⟨D,p,u⟩:=OA (x:=aB a i) (show 0<V by omega) z C;have f:=u (fF ha i);refine⟨⟨?_,p,by simpa using E,?_⟩,f⟩;·rw[D7,D,drop_set pj,val]
 ·intro d e;rcases mE e with e|rfl;·exact G d e
  exact f
theorem QB(h:LD a q V 0 r):val q=val a/V/\r=val a%V:=by obtain⟨e,f,-,-⟩:=h;rw[fi,fi]at e;exact Jr e f
theorem LH{lo hi mid:Nat}(h1:lo*V<=r)(h2:r<(hi+1)*V)(hm:mid=(lo+hi+1)/2)(hl:lo<hi):
 (mid*V<=r->mid*V<=r/\r<(hi+1)*V/\hi-mid<hi-lo/\mid<=hi)/\(¬mid*V<=r->lo*V<=r/\r<(mid-1+1)*V/\mid-1-lo<hi-lo/\lo<=mid-1):=by
 refine⟨fun h=>⟨h,h2,pj,pj⟩,fun h=>⟨h1,?_,pj,pj⟩⟩;rw[show mid-1+1=mid by omega];omega
theorem search_end{lo:Nat}(h1:lo*V<=r)(h2:r<(lo+1)*V):lo=r/V/\r-lo*V=r%V:=by rw[fY,fh]at h2;exact Jr (q:=lo) (r:=r-lo*V) pj pj
theorem LJ(m n:Nat):Nat.gcd n (m%n)=Nat.gcd m n:=by rw[Nat.gcd_comm n,<-Nat.gcd_rec,Nat.gcd_comm]
section
open Go.RowKit
theorem jm(l:List Nat):(ints l).length=l.length:=by simp[ints]
theorem ints_at{x:Int}(h:(ints l)[k]?=some x):∃d:Nat,l[k]?=some d/\x=(d:Int):=by unfold ints at h;rw[cM]at h;obtain⟨d,e,f⟩:=Option.map_eq_some_iff.1 h;exact⟨d,e,f.symm⟩
theorem eG(l:List Nat)(k:Nat):(ints l).take k=ints (l.take k):=by simp[ints,List.map_take]
theorem SS(l:List Nat)(k:Nat):(ints l).drop k=ints (l.drop k):=by simp[ints,List.map_drop]
theorem ints_set(l:List Nat)(k d:Nat):(ints l).set k (d:Int)=ints (l.set k d):=by simp[ints,nA]
theorem lH(n:Nat):List.replicate n (0:Int)=ints (List.replicate n 0):=by simp[ints]
theorem VZ(h:d<BB):i64 (d:Int):=by have:BB<=1073741824:=bj _;unfold i64;omega
theorem fU(h:Good l):∀x,x∈ints l->i64 x:=by intro x hx;obtain⟨d,e,rfl⟩:=eE.1 hx;exact VZ (h d e)
theorem g_(h:d<BB):d<=1073741823:=my h
theorem Hy(h:d<=1073741823):d<BB:=Nat.lt_succ_of_le h
theorem Sl.mG(h:Sl Int w M A n c (ints l))(hg:Good l)(hk:k<n):
 ∃(b o d:Nat),A=some ⟨b,o,none⟩/\w.cell? ⟨b,o+k,none⟩=some (.int .i64 (d:Int))/\d<=1073741823/\l[k]?=some d/\aB l k=d:=by
 obtain⟨b,o,x,rfl,K,-,-,hx⟩:=h.pR hk;obtain⟨d,e,rfl⟩:=ints_at hx;exact⟨b,o,d,rfl,K,g_ (hg d (bh e)),e,by simp[aB,List.getD,e]⟩
theorem Sl.eu(h:Sl Int w M A n c (ints l)):l.length=n:=by rw[<-jm];exact h.len
theorem Hz(h:l[k]?=some 0):mD (l.take (k+1))=mD (l.take k):=by rw[dm,h,iA,aeu]
theorem H_(hg:Good l)(h:l[k]?=some d)(hd:d≠0):mD (l.take (k+1))=l.take (k+1):=by
 have e:l.take (k+1)=l.take k++ [d]:=by rw[dm,h,iA]
 rw[e];exact aev (by rw[<-e];exact lD hg _) hd
theorem LK:mD []= []:=by unfold mD;simp[val,bU]
def DR(w:World)(M:List Nat)(x:Nat)(e:Ending)(w':World):Prop:=∃A n c,e=.returned (.slice A n c)/\Sl Int w' M A n c (ints (bC x))/\Below w w w'
def ZV(w:World)(M:List Nat)(v:Value)(z:Int):Prop:=∃A n c,v=.agg #[.bool (aG z),.slice A n c]/\Sl Int w M A n c (ints (bG z))
theorem ZV.go{w w':World}{M:List Nat}{v:Value}{z:Int}(h:ZV w M v z)(hb:Below w w w'):ZV w' M v z:=by obtain⟨A,n,c,rfl,h⟩:=h;exact⟨A,n,c,rfl,h.go hb⟩
theorem ZV.zero(w:World)(M:List Nat):ZV w M (.agg #[.bool false,.slice none 0 0]) 0:=⟨none,0,0,rfl,by rw[show bG 0= []from bU];exact Sl.nil0⟩
open Go.Shelf
attribute [local go_sem] cX
theorem jw(A:Option Addr)(n c:Nat)(l:List Nat)(w:World)(hx:Sl Int w M A n c (ints l))(hg:Good l):
 Calls prog 186 #[.slice A n c] w fun e w'=>∃k,e=.returned (.slice A k c)/\k<=n/\l.take k=bC (val l)/\Below w w w':=by
 refine wid ?_;have H:=Hd hx;have HG:=Hd hg;have hs:=hx.small;have K:=hx.cap;clear hx hg;refine ent func186 ntmps186 ?_;gi_wp2;gi_loopw[3] (fun i wr=>∃k:Nat,k<=n/\i=k/\Hid (mD (l.take k)=bC (val l))/\Below w w wr) (fun i _=>(intOf i).toNat);case atStart=>exact Xu
 case round=>
  obtain⟨k,D,rfl,p,hb⟩:=hrel;rcases eC k with rfl|S;·have f:=p.out;rw[fT,LK]at f;have u:=Hd f;have E:=nZ (k:=0) underlying190 (sz:=1) (fun w=>by kernel_rfl) A (cf n) K;exact Xn
  ·obtain⟨j,rfl⟩:∃j,k=j+1:=⟨k-1,pj⟩;obtain⟨b,o,d,rfl,J,O,z,-⟩:=(H.out.keep (bq hb M)).mG HG.out (show j<n by omega);have G:((j+1:Nat):Int)-1=(j:Int):=pj;have I:IntKind.i64.wrap ((j:Nat):Int)=(j:Int):=by rw[cA];omega
   by_cases C:d=0;·exact ER
   have f:=p.out;rw[H_ HG.out z C]at f;have u:=Hd f;have P:((d:Int)==0)=false:=by simpa using C
   have E:=nZ (k:=j+1) underlying190 (sz:=1) (fun w=>by kernel_rfl) (some ⟨b,o,none⟩) D K;clear f p z;gi_wp2;go_ret;exact⟨j+1,rfl,D,u.out,hb⟩
theorem jy(A:Option Addr)(n c:Nat)(l:List Nat)(w:World)(hx:Sl Int w M A n c (ints l))(hg:Good l):
 Calls prog 192 #[.slice A n c] w fun e w'=>∃k,e=.returned (.slice A k c)/\k<=n/\l.take k=bC (val l)/\Below w w w':=by
 refine wid ?_;have H:=Hd hx;have HG:=Hd hg;have hs:=hx.small;have K:=hx.cap;clear hx hg;refine ent func192 ntmps192 ?_;gi_wp2;gi_loopw[3] (fun i wr=>∃k:Nat,k<=n/\i=k/\Hid (mD (l.take k)=bC (val l))/\Below w w wr) (fun i _=>(intOf i).toNat);case atStart=>exact Xu
 case round=>
  obtain⟨k,D,rfl,p,hb⟩:=hrel;rcases eC k with rfl|S;·have f:=p.out;rw[fT,LK]at f;have u:=Hd f;have E:=nZ (k:=0) underlying26 (sz:=1) (fun w=>by kernel_rfl) A (cf n) K;exact Xn
  ·obtain⟨j,rfl⟩:∃j,k=j+1:=⟨k-1,pj⟩;obtain⟨b,o,d,rfl,J,O,z,-⟩:=(H.out.keep (bq hb M)).mG HG.out (show j<n by omega);have G:((j+1:Nat):Int)-1=(j:Int):=pj;have I:IntKind.i64.wrap ((j:Nat):Int)=(j:Int):=by rw[cA];omega
   by_cases C:d=0;·exact ER
   have f:=p.out;rw[H_ HG.out z C]at f;have u:=Hd f;have P:((d:Int)==0)=false:=by simpa using C
   have E:=nZ (k:=j+1) underlying26 (sz:=1) (fun w=>by kernel_rfl) (some ⟨b,o,none⟩) D K;clear f p z;gi_wp2;go_ret;exact⟨j+1,rfl,D,u.out,hb⟩
theorem BI(A:Option Addr)(n c:Nat)(l:List Nat)(i:Nat)(w:World)(hx:Sl Int w M A n c (ints l))(hg:Good l):
 Calls prog 259 #[.slice A n c,.int .i64 (i:Int)] w fun e w'=>e=.returned (.int .i64 (aB l i:Int))/\w'=w:=by
 refine wid ?_;by_cases z:i<n;·obtain⟨b,o,d,rfl,D,f,C,p⟩:=hx.mG hg z;have u:=Hd p;have hs:=hx.small;clear hx hg p C;refine ent func259 ntmps259 ?_;gi_wp2;go_ret;exact⟨by rw[u.out];rfl,rfl⟩
 ·have f:aB l i=0:=by
    unfold aB List.getD;rw[fW (by rw[hx.eu];omega)];rfl
  rw[f];clear hx hg f;refine ent func259 ntmps259 ?_;gi_wp2;go_ret;exact⟨rfl,rfl⟩
theorem QD(A:Option Addr)(n c:Nat)(l:List Nat)(i:Nat)(w:World)(hx:Sl Int w M A n c (ints l))(hg:Good l):
 Calls prog 232 #[.slice A n c,.int .i64 (i:Int)] w fun e w'=>e=.returned (.int .i64 (aB l i:Int))/\w'=w:=by
 refine wid ?_;by_cases z:i<n;·obtain⟨b,o,d,rfl,D,f,C,p⟩:=hx.mG hg z;have u:=Hd p;have hs:=hx.small;clear hx hg p C;refine ent func232 ntmps232 ?_;gi_wp2;go_ret;exact⟨by rw[u.out];rfl,rfl⟩
 ·have f:aB l i=0:=by
    unfold aB List.getD;rw[fW (by rw[hx.eu];omega)];rfl
  rw[f];clear hx hg f;refine ent func232 ntmps232 ?_;gi_wp2;go_ret;exact⟨rfl,rfl⟩
def qK(x y:Nat):Int:=if x<y then-1 else if y<x then 1 else 0
theorem pI(h:x<y):qK x y= -1:=by simp[qK,h]
theorem pJ(h:y<x):qK x y=1:=by unfold qK;rw[if_neg pj,if_pos h]
theorem uM(h:x=y):qK x y=0:=by subst h;simp[qK]
theorem tH(A B:Option Addr)(n c m d:Nat)(x y:Nat)(w:World)(hx:Sl Int w M A n c (ints (bC x)))(hy:Sl Int w N B m d (ints (bC y))):
 CB 159 #[.slice A n c,.slice B m d] (.int .i64 (qK x y)) w:=by
 refine wid ?_;have H:=Hd hx;have G:=Hd hy;have hs:=hx.small;have ao:=hy.small;have I:=hx.eu;have J:=hy.eu;have v1:=bI x;have v2:=bI y;have D:=aO x;have C:=aO y;have t1:=iQ x;have t2:=iQ y;generalize hz:qK x y=z;have HZ:=Hd hz;clear hx hy hz;by_cases ae:n=m
 ·subst ae;generalize bC x=a at*;generalize bC y=b at*;have P:=Zw I J v1 v2 D C;clear v1 v2 D C t1 t2 I J;refine ent func159 ntmps159 ?_;gi_wp2
  gi_loopw[5] (fun i wr=>∃k:Nat,k<=n/\i=.int .i64 ((k:Int)-1)/\Hid (a.drop k=b.drop k)/\Below w w wr) (fun i _=>(intOf i+1).toNat);case atStart=>exact⟨n,bj _,by go_num,by rw[cB (by rw[P.a];exact bj _),cB (by rw[P.b];exact bj _)];rfl,bL _ _⟩
  case round=>
   obtain⟨k,hk,rfl,f,hb⟩:=hrel;rcases eC k with rfl|an;·have W:=f.out;rw[fi,fi]at W;have E:=Hd (uM (show x=y by rw[<-P.c,<-P.d,W]));clear W f;gi_wp2;go_ret;exact⟨jL (E.out.symm.trans HZ.out),hb⟩
   ·obtain⟨j,rfl⟩:∃j,k=j+1:=⟨k-1,pj⟩;obtain⟨b1,o1,p,rfl,S,ai,aa,-⟩:=(H.out.keep (bq hb M)).mG P.e (show j<n by omega);obtain⟨b2,o2,u,rfl,T,aj,ab,-⟩:=(G.out.keep (bq hb N)).mG P.y (show j<n by omega);have Y:((j+1:Nat):Int)-1=(j:Int):=pj;rw[Y];have al:j<n:=pj;have c1:=ah S;have c2:=ah T;have c3:=ah (w:=wr.drew) S;have c4:=ah (w:=wr.drew) T;have L:=Hd2 aa ab;clear aa ab Y S T;by_cases K:p<u
    ·have E:=Hd (pI (show x<y by rw[<-P.c,<-P.d];exact uJ P.e (P.a.trans P.b.symm) L.out.1 L.out.2 f.out K));have af:decide ((p:Int)<(u:Int))=true:=by simpa using K
     clear f;gi_wp2;refine ak [] [0,1,2,3,4,5,6,7,8] pk pk ?_;refine eH ?_;refine aK ?_;refine lit ?_;gi_wp2;go_ret;exact⟨jL (E.out.symm.trans HZ.out),hb.drew⟩
    have af:decide ((p:Int)<(u:Int))=false:=by simpa using K
    by_cases O:u<p
    ·have E:=Hd (pJ (show y<x by rw[<-P.c,<-P.d];exact uJ P.y (P.b.trans P.a.symm) L.out.2 L.out.1 f.out.symm O));have ag:decide ((u:Int)<(p:Int))=true:=by simpa using O
     clear f;gi_wp2;refine ak [] [0,1,2,3,4,5,6,7,8] pk pk ?_;refine eH ?_;refine aK ?_;refine lit ?_;gi_wp2;refine ak [] [0,1,2,3,4,5,6,7,8] pk pk ?_;refine eH ?_;refine aK ?_;refine lit ?_;gi_wp2;go_ret;exact⟨jL (E.out.symm.trans HZ.out),hb.drew.drew⟩
    have ag:decide ((u:Int)<(p:Int))=false:=by simpa using O
    have Z:p=u:=pj;have ac:a.drop j=b.drop j:=by rw[drop_cons L.out.1,drop_cons L.out.2,f.out,Z]
    have ad:=Hd ac;clear ac f Z;gi_wp2;refine ak [] [0,1,2,3,4,5,6,7,8] pk pk ?_;refine eH ?_;refine aK ?_;refine lit ?_;gi_wp2;refine ak [] [0,1,2,3,4,5,6,7,8] pk pk ?_;refine eH ?_;refine aK ?_;refine lit ?_;gi_wp2;go_roundw;case rel=>exact⟨j,pj,by go_num,ad.out,hb.drew.drew⟩
    case measure=>simp[intOf]
 ·by_cases am:n<m;·have E:=Hd (pI (show x<y by rw[<-v1,<-v2];exact rF D t2 pj));exact PS
  have E:=Hd (pJ (show y<x by rw[<-v1,<-v2];exact rF C t1 pj));exact PS
def oH(l:List Nat)(k:Nat):List (Array Value):=((List.range k).reverse).map (fun i=>#[.int .i64 ((i:Nat):Int),.int .i64 (aB l i:Int)])
theorem lI(l:List Nat)(k:Nat):oH l (k+1)=#[.int .i64 ((k:Nat):Int),.int .i64 (aB l k:Int)]::oH l k:=by unfold oH;rw[oR,List.reverse_append];rfl
theorem OM(l:List Nat):oH l 0= []:=rfl
theorem Ia(l:List Nat):∀(n k:Nat),k<=n->∃pre,oH l n=pre++oH l k
 |0,k,h=>by have:k=0:=Nat.le_zero.1 h;subst this;exact⟨[],rfl⟩
 |n+1,k,h=>by
  rcases lP n k with g|g;·obtain rfl:k=n+1:=pj;exact⟨[],rfl⟩
  obtain⟨pre,hp⟩:=Ia l n k g;exact⟨#[.int .i64 ((n:Nat):Int),.int .i64 (aB l n:Int)]::pre,by rw[lI,hp];rfl⟩
theorem zX{N:List Nat}(h1:w0.cell? ⟨b1,0,none⟩=some (.slice A n c))(m1:b1∉M)
 (hx:Sl Int w0 M A n c (ints l)) (hg:Good l):
 Yields Wd prog 229 #[.pointer (some ⟨b1,0,none⟩)] w0 M (oH l n):=by
 intro lp J Jx Jp W z hJ af E P;have hs:=hx.small;have HX:=Hd hx;have HG:=Hd hg;have Z:=Hd P;have T:=Hd E;have H:=z.cell m1 h1;clear hx hg P E h1;simp only[fp,d_,df];refine ent func229 ntmps229 ?_;gi_wp2;gi_loopw[3] (fun i wr=>∃k:Nat,k<=n/\i=.int .i64 ((k:Int)-1)/\Hid (J (oH l k) wr)/\Hid (aq W.heap.size M W wr)) (fun i _=>(intOf i+1).toNat);case atStart=>exact⟨n,bj _,by go_num,T.out,aq.refl _ _ _⟩
 case round=>
  obtain⟨k,hk,rfl,G,p⟩:=hrel;rcases eC k with rfl|ah;·have f:=G.out;rw[OM]at f;have Y:=Hd f;clear f;gi_wp2;go_end0;exact .inl ⟨⟨_,rfl⟩,.inl Y.out⟩
  ·obtain⟨j,rfl⟩:∃j,k=j+1:=⟨k-1,pj⟩;have D:((j+1:Nat):Int)-1=(j:Int):=pj;rw[D];have ab:j<n:=pj;have I:=z.Uh p.out z.size;obtain⟨b,o,d,rfl,ag,hd,ac,u⟩:=(HX.out.keep I).mG HG.out ab;have e2:=(p.out.IC (bw W _ H) m1 H);have f:=G.out;rw[lI,u]at f;have O:∃C,oH l n=C++#[.int .i64 ((j:Nat):Int),.int .i64 (d:Int)]::oH l j:=by
    obtain⟨C,K⟩:=Ia l n (j+1) hk;rw[lI,u]at K;exact⟨C,K⟩
   obtain⟨fn,ai,ad,ae,hy,S⟩:=Z.out W.heap.size _ _ wr O pD p.out.size p.out f;have aa:=Hd S;clear S f O I ac u D;gi_wp2_with (refine aa.out.mono ?_;rintro e W3 (⟨rfl,hJ3,hk3⟩|⟨rfl,hx3⟩|⟨ch,rfl,hp3⟩))
   ·go_roundw;case rel=>exact⟨j,pj,by go_num,hJ3,p.out.trans hk3⟩
    case measure=>simp[intOf]
   ·refine bodyPost_ret (results_none rfl _ _ _) rfl ?_;exact .inl ⟨⟨_,rfl⟩,.inr hx3⟩
   exact⟨rfl,.inr ⟨ch,rfl,hp3⟩⟩
theorem Jt(A:Option Addr)(n c:Nat)(w:World):
 Calls prog 187 #[.slice A n c] w fun e w'=>e=.returned (.func (.func 229) #[] #[.pointer (some ⟨w,0,none⟩)])/\w.alloc (.cells #[.slice A n c] 190)=w':=by
 go_enter func187,ntmps187;go_wp2;go_ret;exact⟨rfl,rfl⟩
theorem LM(A:Option Addr)(n c:Nat)(w:World):
 Calls prog 142 #[.slice A n c] w fun e w'=>e=.returned (.func (.func 229) #[] #[.pointer (some ⟨w,0,none⟩)])/\w.alloc (.cells #[.slice A n c] 190)=w':=by
 refine wid ?_;refine ent func142 ntmps142 ?_;gi_wp2_with (refine Cl 187 (Jt A n c _) ?_;rintro e f ⟨rfl,rfl⟩)
 go_ret;exact⟨rfl,rfl⟩
theorem D8{x:Array Value}(h:x∈oH l k):x.size=2:=by unfold oH at h;obtain⟨i,-,rfl⟩:=eE.1 h;rfl
theorem Ib(h: []=oH l k):k=0:=by
 cases k with
 |zero=>rfl
 |succ k=>rw[lI]at h;cases h
theorem jo(A B:Option Addr)(n c m d:Nat)(x y:Nat)(w:World)(hx:Sl Int w M A n c (ints (bC x)))(hy:Sl Int w N B m d (ints (bC y))):
 CB 98 #[.slice A n c,.slice B m d] (.int .i64 (qK x y)) w:=by
 refine wid ?_;have H:=Hd (hx.less (M':= []) po);have G:=Hd (hy.less (M':= []) po);have hs:=hx.small;have ay:=hy.small;have l1:=hx.eu;have l2:=hy.eu;have v1:=bI x;have v2:=bI y;have T:=aO x;have Y:=aO y;have t1:=iQ x;have t2:=iQ y;generalize hz:qK x y=z;have HZ:=Hd hz;clear hx hy hz;by_cases al:n=m
 ·subst al;generalize bC x=a at*;generalize bC y=b at*;have P:=Zw l1 l2 v1 v2 T Y;clear v1 v2 T Y t1 t2 l1 l2;refine sH func98 rfl ntmps98 ?_
  gi_wp2_with (refine Cl 142 (LM A n c _) ?_;rintro e J ⟨rfl,aj⟩;have ac:=Hd aj;clear aj)
  have I:=ac.out;have b1:Below w w J:=by rw[<-I];exact(((bL w w).alloc pD _).alloc po _).alloc px _
  have s1:J.heap.size=w.heap.size+3:=by rw[<-I];simp
  have c0:J.cell? ⟨w,0,none⟩=some (.slice B n d):=by rw[<-I];simp[go_sem]
  have c1:J.cell? ⟨w+1,0,none⟩=some (.int .i64 0):=by rw[<-I];simp[go_sem]
  have f1:J.frozen? ⟨w+1,0,none⟩=false:=by rw[<-I];simp[go_sem]
  have c2:J.cell? ⟨w+1+1,0,none⟩=some (.slice A n c):=by rw[<-I];simp[go_sem]
  clear I ac
  refine m_ (M:= [w.heap.size+1]) (w0:=J) rfl rfl trivial (eR func229 pk rfl)
   (zX (b1:=w.heap.size+1+1) (N:= []) (l:=a) c2 po ((H.out.more (b:=w+1) pj).keep (bq b1 _)) P.e) (cG _ _) ?hM ?hps
   (fun rest W=>((∃k:Nat,k<=n/\rest=oH a k/\a.drop k=b.drop k)/\Below w w W)/\W.cell? ⟨w,0,none⟩=some (.slice B n d)/\W.cell? ⟨w+1,0,none⟩=some (.int .i64 0)/\W.frozen? ⟨w+1,0,none⟩=false)
   (fun j W=>((j=.ret)/\Below w w W)/\W.cell? ⟨w+1,0,none⟩=some (.int .i64 z)/\W.frozen? ⟨w+1,0,none⟩=false)
   (fun _=>((kX _ _).and (kY pD pj)).and ((nO _ _ _).and (jV _ _ _)))
   (fun _=>((kX _ _).and (kY pD pj)).and (jV _ _ _))
   ⟨⟨⟨n,bj _,rfl,by rw[cB (by rw[P.a];exact bj _),cB (by rw[P.b];exact bj _)]⟩,b1⟩,c0,c1,f1⟩ ?round ?done ?stop
  case hM=>
   intro q Z;have:q=w.heap.size+1:=by simpa using Z
   omega
  case hps=>intro q Z;exact D8 Z
  case round=>
   rintro l s q rest W-hl av az ax au ⟨⟨⟨k,hk,S,O⟩,K⟩,hc0,hc1,hf1⟩;obtain⟨j,rfl⟩:∃j,k=j+1:=⟨k-1,by
    rcases eC k with rfl|h;·cases S
    omega⟩
   rw[lI]at S;injection S with Z hr';subst Z;have ag:j<n:=pj;obtain⟨f,aa⟩:=dW a j (by rw[P.a];exact ag);have ap:f<=1073741823:=g_ (P.e f (bh aa));have ae:aB a j=f:=by simp[aB,List.getD,aa]
   obtain⟨b2,o2,C,rfl,ad,ar,ah,-⟩:=(G.out.keep (bq K [])).mG P.y ag;rw[ae];have L:=h_ aa ah hr' O;clear aa ah hr' O ae;gi_wp2;refine⟨aq.refl _ _ _,fun u=>(u.cell? ⟨w,0,none⟩=some (.slice (some ⟨b2,o2,none⟩) n d)/\u.cell? ⟨b2,o2+j,none⟩=some (.int .i64 (C:Int))/\u.cell? ⟨w+1,0,none⟩=some (.int .i64 0)/\u.frozen? ⟨w+1,0,none⟩=false)/\Below w w u,?_,?_,?_⟩;·exact((nO _ _ _).and ((nO _ _ _).and (jV _ _ _))).and (kY pD pj)
   ·exact⟨⟨hc0,ad,hc1,hf1⟩,K⟩
   ·rintro u ao Z5 ⟨⟨x0,x1,x2,x3⟩,hbW2⟩;have ab:=Hd Z5;clear ao Z5 hc0 hc1 hf1 ad;by_cases h1:f<C
    ·have E:=Hd (pI (show x<y by rw[<-P.c,<-P.d];exact uJ P.e (P.a.trans P.b.symm) L.out.1 L.b L.w h1));have am:decide ((f:Int)<(C:Int))=true:=by simpa using h1
     exact EG
    have am:decide ((f:Int)<(C:Int))=false:=by simpa using h1
    by_cases h2:C<f
    ·have E:=Hd (pJ (show y<x by rw[<-P.c,<-P.d];exact uJ P.y (P.b.trans P.a.symm) L.b L.out.1 L.w.symm h2));have an:decide ((C:Int)<(f:Int))=true:=by simpa using h2
     exact EG
    have an:decide ((C:Int)<(f:Int))=false:=by simpa using h2
    have af:f=C:=pj;have ai:a.drop j=b.drop j:=by rw[drop_cons L.out.1,drop_cons L.b,L.w,af]
    have ak:=Hd ai;clear ai af;gi_wp2;exact⟨aq.refl _ _ _,⟨⟨j,pj,L.c,ak.out⟩,hbW2⟩,x0,x2,x3⟩
  case done=>rintro D W hD ⟨⟨⟨k,hk,S,O⟩,K⟩,hc0,hc1,hf1⟩ hdef;obtain rfl:=Ib S;rw[fi,fi]at O;have E:=Hd (uM (show x=y by rw[<-P.c,<-P.d,O]));clear S O;gi_wp2;refine⟨po,.inl ⟨_,_,rfl,jt (fA hdef),?_⟩⟩;refine⟨.int .i64 0,by simp[results,go_sem,qg (cZ hc1) (fA hdef)],jL ?_,nV (K.setCell (p:=⟨w+1,0,none⟩) po _) pj pD⟩;exact E.out.symm.trans HZ.out
  case stop=>rintro D j W hD ⟨⟨rfl,K⟩,hc1,hf1⟩ hdef;gi_wp2;refine⟨po,.inl ⟨_,_,rfl,jt (by assumption),?_⟩⟩;exact⟨z,by simp[results,go_sem,qg hc1 hdef],rfl,nV K pj pD⟩
 ·by_cases aw:n<m;·have E:=Hd (pI (show x<y by rw[<-v1,<-v2];exact rF T t2 pj));exact EC
  have E:=Hd (pJ (show y<x by rw[<-v1,<-v2];exact rF Y t1 pj));exact EC
theorem qL(n:Int):bits .and .i64 n 1073741823=n% (BB:Int):=by
 have e:(BitVec.ofInt 64 1073741823).toNat=2^30-1:=pt;have f:(BitVec.ofInt 64 n &&& BitVec.ofInt 64 1073741823).toNat=(n% ((2^64:Nat):Int)).toNat%2^30:=by rw[BitVec.toNat_and,BitVec.toNat_ofInt,e,Nat.and_two_pow_sub_one_eq_mod]
 show IntKind.i64.wrap ((BitVec.ofInt 64 n &&& BitVec.ofInt 64 1073741823).toNat:Nat)=n%1073741824;rw[f,cA];omega
theorem BBi:(1073741824:Int)=(BB:Int):=rfl
theorem agT(hk:ms.length=k)(hn:k<n)(m:Nat):(ms++List.replicate (n-k) 0).set k m=(ms++ [m])++List.replicate (n-(k+1)) 0:=by subst hk;rw[il _ _ pD,gA];obtain⟨j,C⟩:∃j,n-ms.length=j+1:=⟨n-ms.length-1,pj⟩;rw[C,List.replicate_succ,eM,show n-(ms.length+1)=j by omega];simp
theorem OO{x:Int}(hx:F[k]?=some x):aY (F.drop k) o=(((x+o)% (BB:Int)).toNat::(aY (F.drop (k+1)) ((x+o)/(BB:Int))).1,(aY (F.drop (k+1)) ((x+o)/(BB:Int))).2):=by
 have e:k<F.length:=(bu.1 hx).1;have:F.drop k=x::F.drop (k+1):=by rw[cL e];congr 1;exact(bu.1 hx).2
 rw[this,aY]
def rY(F:List Int)(k:Nat)(ms:List Nat)(o:Int):Prop:=aY F 0=(ms++(aY (F.drop k) o).1,(aY (F.drop k) o).2)/\ms.length=k/\Good ms
theorem rY.start(F:List Int):rY F 0 [] 0:=⟨rfl,rfl,tu⟩
theorem rY.step{F:List Int}{k:Nat}{ms:List Nat}{o x:Int}(h:rY F k ms o)(hx:F[k]?=some x):rY F (k+1) (ms++ [((x+o)% (BB:Int)).toNat]) ((x+o)/(BB:Int)):=by
 obtain⟨e,f,p⟩:=h;refine⟨?_,by simp[f],?_⟩;·rw[e,OO hx];simp
 have a:=mn (x+o) (show(BB:Int)≠0 by decide);have b:=Int.emod_lt_of_pos (x+o) Qv;exact zu p pj
theorem rY.done(h:rY F F.length ms o):(aY F 0).1=ms:=by obtain⟨e,-,-⟩:=h;rw[e,List.drop_length];simp[aY]
theorem pK{f:Nat->Int}{caps:Array Value}(n:Nat)(hn:n<=100000)(w:World)(eg:∀args w,(callFunc g args).run prog w=.ok (.enter g args) w)
 (hf:∀i,i<n-> -4611686018427387904<=f i/\f i<=4611686018427387904)
 (hs:∀W (i:Nat),i<n->Below w w W->Calls prog g (#[.int .i64 (i:Int)]++caps) W (fun e W'=>e=.returned (.int .i64 (f i))/\Below W W W')):
 Calls prog 257 #[.int .i64 (n:Int),.func (.func g) #[] caps] w fun e w'=>∃b k,e=.returned (.slice (some ⟨b,0,none⟩) k n)/\Row w' b (ints (aY ((List.range n).map f) 0).1)/\w.heap.size<=b/\k<=n/\(aY ((List.range n).map f) 0).1.take k=bC (val (aY ((List.range n).map f) 0).1)/\Below w w w':=by
 refine wid ?_;have HF:=Hd hf;have HS:=Hd hs;have T:=qR (t:=190) underlying190 n pj;obtain⟨F,D⟩:=aC ((List.range n).map f);have Z:F.length=n:=by rw[<-D];simp
 have aa:∀i,i<n->F[i]?=some (f i):=fun i hi=>by rw[<-D];simp[hi]
 have XR:=Hd aa;rw[D];clear hf hs D aa;obtain⟨W1,E⟩:=aC (w.alloc (.cells ((List.replicate n (0:Int)).map (Value.int .i64)).toArray 3));replace T:=T w;rw[E]at T;have r1:Row W1 w.heap.size (ints (List.replicate n 0)):=by rw[<-E,<-lH];exact Row.new n w
 have b1:Below w w W1:=by rw[<-E];exact bel
 have R1:=Hd r1;have B1:=Hd b1;clear r1 b1 E;refine ent func257 ntmps257 ?_;gi_wp2;gi_loopw[6,13] (fun o i wr=>∃(k:Nat) (ms:List Nat) (u:Int),k<=n/\o=.int .i64 u/\i=.int .i64 k/\ -8589934592<=u/\u<=8589934592/\Hid (rY F k ms u)/\Hid (Row wr w.heap.size (ints (ms++List.replicate (n-k) 0)))/\Below w w wr) (fun _ i _=>n-(intOf i).toNat);case atStart=>exact⟨0, [],0,cf _,rfl,rfl,pj,pj,rY.start F,by simpa using R1,B1.out⟩
 case round=>
  obtain⟨k,ms,u,hk,rfl,rfl,ao,ap,K,z,hb⟩:=hrel;by_cases H:k<n
  ·have an:=HF.out k H;generalize hfe:f k=x at*;have Y:=Hd hfe
   have ad:(ints (ms++List.replicate (n-k) 0))[k]?=some 0:=by
    have:(ms++List.replicate (n-k) 0)[k]?=some 0:=by rw[cQ (by rw[K.b];exact bj _),K.b,gA];obtain⟨j,hj⟩:∃j,n-k=j+1:=⟨n-k-1,pj⟩;rw[hj];rfl
    show((ms++List.replicate (n-k) 0).map _)[k]?=_;rw[cM,this];rfl
   have ai:=Hd ad;have k0:IntKind.i64.wrap (x+u)=x+u:=by rw[cA];omega
   have k1:=qL (x+u);clear ad hfe;gi_wp2_with (refine⟨bO,?_⟩;refine Cn (HS.out wr k H hb) ?_;rintro e w1 ⟨rfl,O⟩;have I:=z.out.go O z.out.lt;have e1:=I.cell ai.out;have e2:=I.free k;have aj:=Hd I;have ah:=Hd (hb.trans (O.mono hb.size));clear I O;rw[Y.out])
   have al:=mn (x+u) (show(BB:Int)≠0 by decide);have ag:=K.out.step (XR.out k H);rw[Y.out]at ag;have ae:=aj.out.put k (((x+u)% (BB:Int)).toNat:Int);rw[ints_set,agT K.b H,km al]at ae;refine⟨⟨k+1,ms++ [((x+u)% (BB:Int)).toNat],(x+u)/1073741824,pj,rfl,by go_num,pj,pj,ag,ae,ah.out.setCell (p:=⟨w,k,none⟩) pD _⟩,by simp[intOf];omega⟩
  ·have ak:k=n:=pj;subst ak;have P:=K.out;rw[<-Z]at P;have ac:=rY.done P;rw[gA,List.replicate_zero,dx,<-ac]at z;have G:=(ji F 0).1;have S:=(ji F 0).2;rw[Z]at S;obtain⟨L,J⟩:=aC (aY F 0).1;rw[J]at z G S;have HL:=Hd J;clear J;have af:Sl Int wr [] (some ⟨w,0,none⟩) k k (ints L):=z.out.sl po (by simp[ints,S]) pj (fU G);have HG:=Hd2 af G;have am:=hb.size;clear af G P ac K;gi_wp2_with (refine Cl 186 (jw _ _ _ L _ HG.out.1 HG.out.2) ?_;rintro e w2 ⟨q,rfl,hq,ht,ab⟩;have C:=fB ht hq ab;clear ht hq ab)
   go_ret;rw[HL.out];exact⟨w,q,rfl,z.out.go C.v z.out.lt,bj _,C.b,C.a,hb.trans (C.v.mono am)⟩
theorem LP{x y:List Nat}(i:Nat)(w:World)(h1:w.cell? ⟨b1,0,none⟩=some (.slice A n c))(h2:w.cell? ⟨b2,0,none⟩=some (.slice B m d))
 (hx:Sl Int w [] A n c (ints x)) (hy:Sl Int w [] B m d (ints y)) (gx:Good x) (gy:Good y):
 CB 258 #[.int .i64 (i:Int),.pointer (some ⟨b1,0,none⟩),.pointer (some ⟨b2,0,none⟩)] (.int .i64 ((aB x i:Int)+(aB y i:Int))) w:=by
 refine wid ?_;have H:=Hd hx;have G:=Hd hy;have HG:=Hd2 gx gy;have u:=fF gx i;have C:=fF gy i;have v1:=ah h1;have v2:=ah h2;have E:IntKind.i64.wrap ((aB x i:Int)+(aB y i:Int))=(aB x i:Int)+(aB y i:Int):=by have:=g_ u;have:=g_ C;rw[cA];omega
 clear hx hy gx gy u C h1 h2;refine ent func258 ntmps258 ?_;gi_wp2;refine ak [] [0,1,3,4,2,5,6,7] pk pk ?_;refine eH ?_;refine aH fun K f=>aA rfl rfl wy fun z p=>?_;gi_wp2;refine Cm (BI A n c x i _ (H.out.go (by exact bel)) HG.out.1) ?_;rintro e D ⟨rfl,rfl⟩;refine p _ _ ⟨?_,f _ _ ?_⟩;clear p z f K;·exact cG _ _
 refine lit ?_;refine eH ?_;refine aH fun K f=>aA rfl rfl wy fun z p=>?_;gi_wp2;refine Cm (BI B m d y i _ (G.out.go (by exact bel)) HG.out.2) ?_;rintro e D ⟨rfl,rfl⟩;refine p _ _ ⟨?_,f _ _ ?_⟩;clear p z f K;·exact cG _ _
 refine lit ?_;refine eH ?_;refine aK ?_;refine lit ?_;gi_wp2;go_ret;exact⟨rfl,by exact bel⟩
theorem V_{x y:List Nat}(i:Nat)(hi:i<n)(w:World)(h1:w.cell? ⟨b1,0,none⟩=some (.slice A n c))(h2:w.cell? ⟨b2,0,none⟩=some (.slice B m d))
 (hx:Sl Int w [] A n c (ints x)) (hy:Sl Int w [] B m d (ints y)) (gx:Good x) (gy:Good y):
 CB 260 #[.int .i64 (i:Int),.pointer (some ⟨b1,0,none⟩),.pointer (some ⟨b2,0,none⟩)] (.int .i64 ((aB x i:Int)-(aB y i:Int))) w:=by
 refine wid ?_;have hs:=hx.small;obtain⟨b,o,f,rfl,z,I,-,C⟩:=hx.mG gx hi;have E:=Hd C;have G:=Hd hy;have HG:=Hd gy;have D:=fF gy i;have v1:=ah h1;have v2:=ah h2;have v3:=ah z;have J:IntKind.i64.wrap ((f:Int)-(aB y i:Int))=(f:Int)-(aB y i:Int):=by have:=g_ D;rw[cA];omega
 rw[E.out];clear hx hy gx gy D h1 h2 z C;refine ent func260 ntmps260 ?_;gi_wp2;refine ak [] [0,1,2,3,4,5,6,7,8] pk pk ?_;refine eH ?_;refine aH fun K p=>aA rfl rfl wy fun H u=>?_;gi_wp2;refine Cm (BI B m d y i _ (G.out.go (by exact bel)) HG.out) ?_;rintro e O ⟨rfl,rfl⟩;refine u _ _ ⟨?_,p _ _ ?_⟩;clear u H p K;·exact cG _ _
 refine lit ?_;refine eH ?_;refine aK ?_;refine lit ?_;gi_wp2;go_ret;exact⟨rfl,by exact bel⟩
theorem OQ{x:List Nat}(i:Nat)(w:World)(h1:w.cell? ⟨b1,0,none⟩=some (.slice A n c))(h2:w.cell? ⟨b2,0,none⟩=some (.int .i64 (s:Int)))(hs:s<=29)
 (hx:Sl Int w [] A n c (ints x)) (gx:Good x):
 CB 281 #[.int .i64 (i:Int),.pointer (some ⟨b1,0,none⟩),.pointer (some ⟨b2,0,none⟩)] (.int .i64 ((aB x i:Int)*((2^s:Nat):Int))) w:=by
 refine wid ?_;have H:=Hd hx;have HG:=Hd gx;have E:=g_ (fF gx i);have I:IntKind.i64.wrap ((aB x i:Int)*2^s)=(aB x i:Int)*((2^s:Nat):Int):=by have C:2^s<=2^29:=iH pt hs;have G:aB x i*2^s<=1073741823*2^29:=fS E C;have D:(aB x i:Int)*2^s=((aB x i*2^s:Nat):Int):=po;rw[D,cA,eI];rw[<-eI];omega
 have u:=Hd I;have v1:=ah h1;have v2:=ah h2;clear hx gx h1 h2 I;refine ent func281 ntmps281 ?_;gi_wp2;refine ak [] [0,1,3,2,4,5] pk pk ?_;refine eH ?_;refine aH fun K f=>aA rfl rfl wy fun z p=>?_;gi_wp2;refine Cm (BI A n c x i _ (H.out.go (by exact bel)) HG.out) ?_;rintro e J ⟨rfl,rfl⟩;refine p _ _ ⟨?_,f _ _ ?_⟩;clear p z f K;·exact cG _ _
 refine lit ?_;refine eH ?_;refine aK ?_;refine lit ?_;gi_wp2;go_ret;exact⟨jL u.out,by exact bel⟩
theorem Row.dr{b:Nat}{L:List Nat}(h:Row w' b (ints L))(hb:w.heap.size<=b)(hM:b_ M w)(hk:k<=n)(hl:L.length=n)(hn:n<=1000000)(hg:Good L)(ht:L.take k=bC v)(hB:Below w w w'):DR w M v (.returned (.slice (some ⟨b,0,none⟩) k n)) w':=by
 refine⟨_,k,n,rfl,?_,hB⟩;have hs:=h.sl (M:=M) (fun e=>by have:=hM _ e;omega) (n:=n) (by simp[ints,hl]) hn (fU hg);have:=hs.nY hk
 rwa [eG,ht]at this
theorem uN(n:Nat)(f:Nat->Int):(aY ((List.range n).map f) 0).1.length=n/\Good (aY ((List.range n).map f) 0).1:=by obtain⟨e,p⟩:=ji ((List.range n).map f) 0;exact⟨by rw[p];simp,e⟩
theorem YE(hM:b_ M w)(hx:Sl Int w M A n c (ints (bC x)))(hy:Sl Int w M B m d (ints (bC y)))(hn:n<=5000)(hm:m<=5000)(hnm:n<m):
 Calls prog 224 #[.slice A n c,.slice B m d] w (DR w M (x+y)):=by
 refine wid ?_;have H:=Hd (hx.less (M':= []) po);have G:=Hd (hy.less (M':= []) po);have Y:=hx.eu;have Z:=hy.eu;have aa:∀(fn:Fn) (first cap:Array Value) (w:World),(Instr.makeFunc fn first cap).run prog w=.ok (.func fn first cap) w:=fun _ _ _ _=>rfl;have O:∀i,i<m+1-> -4611686018427387904<=(aB (bC x) i:Int)+(aB (bC y) i:Int)/\(aB (bC x) i:Int)+(aB (bC y) i:Int)<=4611686018427387904:=fun i _=>by have:=g_ (fF (aO x) i);have:=g_ (fF (aO y) i);omega
 have Nu:=Hd O;have z:=DL (aO x) (aO y);rw[Y,Z,show max n m=m by omega]at z;have OT:=Hd z;clear hx hy O z Y Z;refine ent func224 ntmps224 ?_;gi_wp2_with (refine⟨bO,?_⟩;gi_at_call 257;rw[show(m:Int)+1=((m+1:Nat):Int)from by omega];refine Cn (pK (f:=fun i=>(aB (bC x) i:Int)+(aB (bC y) i:Int)) (g:=258) (m+1) pj _ (eR func258 pk rfl) Nu.out (fun W i hi hb=>?_)) ?_)
 ·exact Bh
 ·rintro e w1 ⟨b,k,rfl,S,hb,P,C,I⟩;have u:Below w w w1:=(((bL w w).alloc pD _).alloc po _).trans (I.mono px);have K:w.heap.size<=b:=by simp at hb;omega
  obtain⟨E,D⟩:=uN (m+1) (fun i=>(aB (bC x) i:Int)+(aB (bC y) i:Int));have T:bC (val (aY ((List.range (m+1)).map fun i=>(aB (bC x) i:Int)+(aB (bC y) i:Int)) 0).1)=bC (x+y):=by have:=OT.out;rw[bI,bI]at this;exact this
  exact PU
theorem YF(hM:b_ M w)(hx:Sl Int w M A n c (ints (bC x)))(hy:Sl Int w M B m d (ints (bC y)))(hn:n<=5000)(hm:m<=5000)(hnm:¬n<m):
 Calls prog 224 #[.slice A n c,.slice B m d] w (DR w M (x+y)):=by
 refine wid ?_;have H:=Hd (hx.less (M':= []) po);have G:=Hd (hy.less (M':= []) po);have Y:=hx.eu;have Z:=hy.eu;have aa:∀(fn:Fn) (first cap:Array Value) (w:World),(Instr.makeFunc fn first cap).run prog w=.ok (.func fn first cap) w:=fun _ _ _ _=>rfl;have O:∀i,i<n+1-> -4611686018427387904<=(aB (bC x) i:Int)+(aB (bC y) i:Int)/\(aB (bC x) i:Int)+(aB (bC y) i:Int)<=4611686018427387904:=fun i _=>by have:=g_ (fF (aO x) i);have:=g_ (fF (aO y) i);omega
 have Nu:=Hd O;have z:=DL (aO x) (aO y);rw[Y,Z,show max n m=n by omega]at z;have OT:=Hd z;clear hx hy O z Y Z;refine ent func224 ntmps224 ?_;gi_wp2_with (refine⟨bO,?_⟩;gi_at_call 257;rw[show(n:Int)+1=((n+1:Nat):Int)from by omega];refine Cn (pK (f:=fun i=>(aB (bC x) i:Int)+(aB (bC y) i:Int)) (g:=258) (n+1) pj _ (eR func258 pk rfl) Nu.out (fun W i hi hb=>?_)) ?_)
 ·exact Bh
 ·rintro e w1 ⟨b,k,rfl,S,hb,P,C,I⟩;have u:Below w w w1:=(((bL w w).alloc pD _).alloc po _).trans (I.mono px);have K:w.heap.size<=b:=by simp at hb;omega
  obtain⟨E,D⟩:=uN (n+1) (fun i=>(aB (bC x) i:Int)+(aB (bC y) i:Int));have T:bC (val (aY ((List.range (n+1)).map fun i=>(aB (bC x) i:Int)+(aB (bC y) i:Int)) 0).1)=bC (x+y):=by have:=OT.out;rw[bI,bI]at this;exact this
  exact PU
theorem LQ(hM:b_ M w)(hx:Sl Int w M A n c (ints (bC x)))(hy:Sl Int w M B m d (ints (bC y)))(hn:n<=5000)(hm:m<=5000):
 Calls prog 224 #[.slice A n c,.slice B m d] w (DR w M (x+y)):=by
 by_cases h:n<m;·exact YE hM hx hy hn hm h
 ·exact YF hM hx hy hn hm h
theorem LW(hM:b_ M w)(hx:Sl Int w M A n c (ints (bC x)))(hy:Sl Int w M B m d (ints (bC y)))(hn:n<=5000)(hyx:y<=x):
 Calls prog 225 #[.slice A n c,.slice B m d] w (DR w M (x-y)):=by
 refine wid ?_;have H:=Hd (hx.less (M':= []) po);have G:=Hd (hy.less (M':= []) po);have Y:=hx.eu;have l2:=hy.eu;have aa:∀(fn:Fn) (first cap:Array Value) (w:World),(Instr.makeFunc fn first cap).run prog w=.ok (.func fn first cap) w:=fun _ _ _ _=>rfl;have O:∀i,i<n-> -4611686018427387904<=(aB (bC x) i:Int)-(aB (bC y) i:Int)/\(aB (bC x) i:Int)-(aB (bC y) i:Int)<=4611686018427387904:=fun i _=>by have:=g_ (fF (aO x) i);have:=g_ (fF (aO y) i);omega
 have Nu:=Hd O;have z:=Oz (aO x) (show val (bC y)<=val (bC x) by rw[bI,bI];exact hyx) (kR hyx);rw[Y]at z;have OT:=Hd z;clear hx hy O z Y l2;refine ent func225 ntmps225 ?_;gi_wp2_with (refine Cl 257 (pK (f:=fun i=>(aB (bC x) i:Int)-(aB (bC y) i:Int)) (g:=260) n pj _ (eR func260 pk rfl) Nu.out (fun W i hi hb=>?_)) ?_)
 ·have u:Below w w W:=(((bL w w).alloc pD _).alloc po _).trans (hb.mono px);refine V_ (A:=A) (B:=B) (n:=n) (c:=c) (m:=m) (d:=d) i hi W ?_ ?_ (H.out.keep (bq u [])) (G.out.keep (bq u [])) (aO x) (aO y);·exact(hb.cell (p:=⟨w,0,none⟩) px).trans pB
  exact(hb.cell (p:=⟨w+1,0,none⟩) po).trans pB
 ·rintro e w1 ⟨b,k,rfl,S,hb,P,C,I⟩;have u:Below w w w1:=(((bL w w).alloc pD _).alloc po _).trans (I.mono px);have K:w.heap.size<=b:=by simp at hb;omega
  obtain⟨E,D⟩:=uN n (fun i=>(aB (bC x) i:Int)-(aB (bC y) i:Int));have T:bC (val (aY ((List.range n).map fun i=>(aB (bC x) i:Int)-(aB (bC y) i:Int)) 0).1)=bC (x-y):=by have:=OT.out;rw[bI,bI]at this;exact this
  rw[T]at C;have J:=S.dr K hM P E pj D C u;have Z:=Hd J;clear S hb P C I u K E D T J;gi_wp2;go_ret;exact Z.out
def ah_(w:World)(n v:Nat)(e:Ending)(w':World):Prop:=∃b k L,e=.returned (.slice (some ⟨b,0,none⟩) k n)/\Row w' b (ints L)/\w.heap.size<=b/\k<=n/\L.length=n/\Good L/\L.take k=bC v/\Below w w w'
theorem OU(hs:s<=29):2^s<=BB:=cF (iH pt hs) pt
theorem Ic(hx:Sl Int w M A n c (ints (bC x)))(hn:n<=5000)(hs:s<=29):
 Calls prog 262 #[.slice A n c,.int .i64 (s:Int)] w (ah_ w (n+1) (x*2^s)):=by
 refine wid ?_;have H:=Hd (hx.less (M':= []) po);have T:=hx.eu;have aa:∀(fn:Fn) (first cap:Array Value) (w:World),(Instr.makeFunc fn first cap).run prog w=.ok (.func fn first cap) w:=fun _ _ _ _=>rfl;have K:∀i,i<n+1-> -4611686018427387904<=(aB (bC x) i:Int)*((2^s:Nat):Int)/\(aB (bC x) i:Int)*((2^s:Nat):Int)<=4611686018427387904:=fun i _=>by have q:=g_ (fF (aO x) i);have h3:2^s<=2^29:=iH pt hs;have h4:aB (bC x) i*2^s<=1073741823*2^29:=fS q h3;rw[<-eI];omega
 have Nu:=Hd K;have z:=Jq (aO x) (OU hs);rw[T]at z;have OT:=Hd z;clear hx K z T;refine ent func262 ntmps262 ?_;gi_wp2_with (refine⟨bO,?_⟩;gi_at_call 257;rw[show(n:Int)+1=((n+1:Nat):Int)from by omega];refine Cn (pK (f:=fun i=>(aB (bC x) i:Int)*((2^s:Nat):Int)) (g:=281) (n+1) pj _ (eR func281 pk rfl) Nu.out (fun W i hi hb=>?_)) ?_)
 ·have u:Below w w W:=(((bL w w).alloc pD _).alloc po _).trans (hb.mono px);refine OQ (A:=A) (n:=n) (c:=c) i W ?_ ?_ hs (H.out.keep (bq u [])) (aO x);·exact(hb.cell (p:=⟨w,0,none⟩) px).trans pB
  exact(hb.cell (p:=⟨w+1,0,none⟩) po).trans pB
 ·rintro e Y ⟨b,k,rfl,P,hb,O,C,G⟩;have u:Below w w Y:=(((bL w w).alloc pD _).alloc po _).trans (G.mono px);have J:w.heap.size<=b:=by simp at hb;omega
  obtain⟨E,D⟩:=uN (n+1) (fun i=>(aB (bC x) i:Int)*((2^s:Nat):Int));have S:bC (val (aY ((List.range (n+1)).map fun i=>(aB (bC x) i:Int)*((2^s:Nat):Int)) 0).1)=bC (x*2^s):=by have:=OT.out;rw[bI]at this;exact this
  rw[S]at C;have I:ah_ w (n+1) (x*2^s) (.returned (.slice (some ⟨b,0,none⟩) k (n+1))) Y:=⟨b,k,_,rfl,P,J,O,E,D,C,u⟩;have Z:=Hd I;clear P hb O C G u J E D S I;gi_wp2;go_ret;exact Z.out
end
theorem Ju:∀{l:List Nat}{j x:Nat}(_:l[j]?=some x) (d:Nat),val (l.set j d)+BB^j*x=val l+BB^j*d
 | [],j,x,h,d=>by simp at h
 |y::r,0,x,h,d=>by simp at h;subst h;simp only[eM,val,Nat.pow_zero,fh];omega
 |y::r,j+1,x,h,d=>by
  have ih:=Ju (l:=r) (j:=j) (x:=x) (by simpa using h) d;simp only[fq,val];have e:BB*(val (r.set j d)+BB^j*x)=BB*(val r+BB^j*d):=by rw[ih]
  rw[gO,gO,<-gL,<-gL,ke BB (BB^j),<-lR,show j.succ=j+1 from rfl]at e;omega
theorem D9(h:Good l)(j:Nat)(hd:d<BB):Good (l.set j d):=by
 intro x hx;rcases mE hx with hx|rfl;·exact h x hx
 exact hd
theorem l7(h:l[k]?=some x):val (l.take (k+1))=val (l.take k)+BB^k*x:=by have e:k<l.length:=(bu.1 h).1;rw[dm,h,iA,val_append,cI,gC pj];simp[val]
structure yB(a b:List Nat)(i:Nat)(R:List Nat):Prop where
 eq:val R=val (a.take i)*val b
 good:Good R
 len:R.length=a.length+b.length
 top:∀j,i+b.length<=j->j<R.length->R[j]?=some 0
structure Fz(a b:List Nat)(i x k over:Nat)(R:List Nat):Prop where
 eq:val R+BB^(i+k)*over=val (a.take i)*val b+BB^i*(x*val (b.take k))
 good:Good R
 len:R.length=a.length+b.length
 top:∀j,i+b.length<=j->j<R.length->R[j]?=some 0
 lt:over<BB
theorem yB.start(a b:List Nat):yB a b 0 (List.replicate (a.length+b.length) 0):=by
 refine⟨?_,?_,po,?_⟩;·rw[zq];simp[val]
 ·intro d e;rw[lL e];exact eX
 intro j _ C;rw[List.length_replicate]at C;simp[C]
theorem yB.row(h:yB a b i R)(x:Nat):Fz a b i x 0 0 R:=⟨by rw[h.eq];simp[val],h.good,h.len,h.top,eX⟩
theorem yB.skip(h:yB a b i R)(ha:a[i]?=some 0):yB a b (i+1) R:=⟨by rw[h.eq,l7 ha];simp,h.good,h.len,fun j hj hl=>h.top j pj hl⟩
theorem Fz.small(h:Fz a b i x k over R)(hx:x<BB)(hr:R[i+k]?=some r)(hy:b[k]?=some y)(hb:Good b):r+x*y+over<=1152921504606846975/\r<=1073741823/\y<=1073741823/\over<=1073741823/\x*y<=1152921502459363329/\(r+x*y+over)/BB<BB:=by have f:r<=1073741823:=my (h.good r (bh hr));have e:y<=1073741823:=my (hb y (bh hy));have p:over<=1073741823:=my h.lt;have u:x<=1073741823:=my hx;have z:x*y<=1073741823*1073741823:=fS u e;refine⟨pj,f,e,p,pj,?_⟩;refine(ld eX).2 ?_;show _<1073741824*1073741824;omega
theorem Fz.step{a b R:List Nat}{i x k over r y:Nat}(h:Fz a b i x k over R)(hx:x<BB)(hr:R[i+k]?=some r)(hy:b[k]?=some y)(hb:Good b):
 Fz a b i x (k+1) ((r+x*y+over)/BB) (R.set (i+k) ((r+x*y+over)%BB)):=by
 have u:=(h.small hx hr hy hb).2.2.2.2.2;have D:k<b.length:=(bu.1 hy).1;refine⟨?_,D9 h.good _ (k_ _ eX),by rw[fR];exact h.len,fun j C p=>?_,u⟩
 ·have H:=Ju hr ((r+x*y+over)%BB);have O:=h.eq;have e:=Nat.mod_add_div (r+x*y+over) BB;rw[l7 hy];rw[<-oE i k 1,lR];generalize (r+x*y+over)%BB=m at*;generalize (r+x*y+over)/BB=q at*
  have f:BB^(i+k)*(m+BB*q)=BB^(i+k)*(r+x*y+over):=by rw[e]
  rw[gO,<-gL,gO,gO]at f;have z:BB^i*(x*(val (b.take k)+BB^k*y))=BB^i*(x*val (b.take k))+BB^(i+k)*(x*y):=by rw[gO,gO,Nat.pow_add,gL];congr 2;rw[<-gL,<-gL,ke x]
  omega
 ·rw[gj pj];exact h.top j C (by simpa using p)
theorem Fz.done(h:Fz a b i x b.length over R)(ha:a[i]?=some x):yB a b (i+1) (R.set (i+b.length) over):=by
 have u:i<a.length:=(bu.1 ha).1;have e:R[i+b.length]?=some 0:=h.top _ pD (by rw[h.len];omega);refine⟨?_,D9 h.good _ h.lt,by rw[fR];exact h.len,fun j C f=>?_⟩;·have H:=Ju e over;have O:=h.eq;rw[mH]at O;rw[l7 ha,fY];have p:BB^i*(x*val b)=BB^i*x*val b:=(gL ..).symm;omega
 rw[gj pj];exact h.top j pj (by simpa using f)
theorem yB.done(h:yB a b a.length R):val R=val a*val b:=by rw[h.eq,mH]
section
open Go.RowKit Go.Shelf
attribute [local go_sem] cX
theorem jK(h:l[k]?=some d):(ints l)[k]?=some (d:Int):=by show(l.map _)[k]?=_;rw[cM,h];rfl
theorem Wh(hM:b_ M w)(hx:Sl Int w M A n c (ints (bC x)))(hy:Sl Int w M B m d (ints (bC y)))(hn:n<=5000)(hm:m<=5000):
 Calls prog 141 #[.slice A n c,.slice B m d] w (DR w M (x*y)):=by
 have H:=Hd (hx.less (M':= []) po);have G:=Hd (hy.less (M':= []) po);have HM:=Hd hM;have l1:=hx.eu;have l2:=hy.eu;have g1:=aO x;have g2:=aO y;have af:val (bC x)*val (bC y)=x*y:=by rw[bI,bI]
 have ac:=qR (t:=190) underlying190 (n+m) pj;obtain⟨W1,Y⟩:=aC (w.alloc (.cells ((List.replicate (n+m) (0:Int)).map (Value.int .i64)).toArray 3));replace ac:=ac w;rw[Y,show((n+m:Nat):Int)=(n:Int)+(m:Int)from by omega]at ac;have r1:Row W1 w.heap.size (ints (List.replicate (n+m) 0)):=by rw[<-Y,<-lH];exact Row.new _ w
 have b1:Below w w W1:=by rw[<-Y];exact bel
 have st:=yB.start (bC x) (bC y);rw[l1,l2]at st;generalize hax:bC x=a at*
 generalize hay:bC y=b at*
 have P:=Hd (And.intro l1 (And.intro l2 (And.intro g1 (And.intro g2 (And.intro af (And.intro st (And.intro r1 b1)))))));clear hx hy hM l1 l2 g1 g2 af st r1 b1 Y hax hay;go_enter func141,ntmps141;go_wp2;go_step3;go_wp2;go_step3;go_wp2;go_loopw[20] (fun i wr=>∃(k:Nat) (R:List Nat),k<=n/\i=k/\Hid (yB a b k R)/\Hid (Row wr w.heap.size (ints R))/\Below w w wr) (fun i _=>n-(intOf i).toNat);case atStart=>exact Y5
 case round=>
  obtain⟨i,R,hi,rfl,hI,hR,hb⟩:=hrel;by_cases ar:i<n
  ·obtain⟨b1,o1,z,rfl,ax,av,ae,-⟩:=(H.out.keep (bq hb [])).mG P.c ar;have L:=Hd ae;clear ae;by_cases h0:z=0
   ·subst h0;go_wp2;go_roundw;case rel=>exact⟨i+1,R,pj,by go_num,hI.out.skip L.out,hR.out,hb⟩
    case measure=>simp[intOf];omega
   have aw:((z:Int)==0)=false:=by simpa using h0
   have aj:z<BB:=Hy av;go_wp2;go_loopw[8,29] (fun o q ak=>∃(k over:Nat) (D:List Nat),k<=m/\o=over/\q=k/\Hid (Fz a b i z k over D)/\Hid (Row ak w.heap.size (ints D))/\Below w w ak) (fun _ q _=>m-(intOf q).toNat);case atStart=>exact⟨0,0,R,cf _,rfl,rfl,hI.out.row z,hR.out,hb⟩
   case round=>
    obtain⟨k,over,D,hk,rfl,rfl,W,E,aa⟩:=hrel;by_cases aq:k<m
    ·obtain⟨b2,o2,Z,rfl,ay,az,ab,-⟩:=(G.out.keep (bq aa [])).mG P.d aq;have am:D.length=n+m:=by rw[W.out.len,P.a,P.b]
     obtain⟨r,hr⟩:=dW D (i+k) pj;obtain⟨s1,s2,s3,s4,s5,s6⟩:=W.out.small aj hr ab P.d;have an:wr.cell? ⟨w,i+k,none⟩=some (.int .i64 (r:Int)):=E.out.cell (jK hr);have ao:wr.frozen? ⟨w,i+k,none⟩=false:=E.out.free _;have ai:=W.out.step aj hr ab P.d;have C:=E.out.put (i+k) (((r+z*Z+over)%BB:Nat):Int);rw[ints_set]at C;have J:=Hd2 ai C;have e0:((z:Int)*(Z:Int))=((z*Z:Nat):Int):=(eI ..).symm;have k0:IntKind.i64.wrap ((i:Int)+(k:Int))=((i+k:Nat):Int):=by rw[cA];omega
     have k1:IntKind.i64.wrap ((z:Int)*(Z:Int))=((z*Z:Nat):Int):=by rw[e0,cA];omega
     have k2:IntKind.i64.wrap ((r:Int)+((z*Z:Nat):Int))=((r+z*Z:Nat):Int):=by rw[cA];omega
     have k3:IntKind.i64.wrap (((r+z*Z:Nat):Int)+(over:Int))=((r+z*Z+over:Nat):Int):=by rw[cA];omega
     have e1:(r:Int)+(z:Int)*(Z:Int)+(over:Int)=((r+z*Z+over:Nat):Int):=po;have q1:((r:Int)+(z:Int)*(Z:Int)+(over:Int))/1073741824=(((r+z*Z+over)/BB:Nat):Int):=by rw[e1,BBi];exact(Int.natCast_ediv _ _).symm
     have q2:bits .and .i64 ((r:Int)+(z:Int)*(Z:Int)+(over:Int)) 1073741823=(((r+z*Z+over)%BB:Nat):Int):=by rw[e1,qL];exact(Int.natCast_emod _ _).symm
     have Q:=Hd2 q1 q2;clear ai C hr ab e0 am e1 q1 q2;go_wp2;rw[Q.a,Q.u];exact⟨⟨k+1,_,_,pj,rfl,by go_num,J.a,J.u,aa.setCell (p:=⟨w,i+k,none⟩) pD _⟩,by simp[intOf];omega⟩
    ·have al:k=m:=pj;subst al;have K:=W.out;have hlo:=g_ K.lt;have hz:D[i+k]?=some 0:=K.top _ (by rw[P.b];exact bj _) (by rw[K.len,P.a,P.b];omega);have I:=K;rw[<-P.b]at I;have I:=I.done L.out;rw[P.b]at I;have an:wr.cell? ⟨w,i+k,none⟩=some (.int .i64 0):=E.out.cell (jK hz);have ao:wr.frozen? ⟨w,i+k,none⟩=false:=E.out.free _;have C:=E.out.put (i+k) (over:Int);rw[ints_set]at C;have J:=Hd2 I C;have k0:IntKind.i64.wrap ((i:Int)+(k:Int))=((i+k:Nat):Int):=by rw[cA];omega
     clear I C K hz;go_wp2;exact P6
  ·have ap:i=n:=pj;subst ap;have O:=hI.out;rw[<-P.a]at O;have hv:=O.done;have hg:=O.good;have hl:=O.len;rw[P.e]at hv;rw[P.a,P.b]at hl;have Nw:w.heap.size∉M:=fun e=>by have:=HM.out _ e;omega
   have ah:=hR.out.sl Nw (n:=i+m) (by rw[jm];exact hl) pj (fU hg);have S:=fB ah hg hv;have au:=hb.size;clear O hv hg hl Nw ah;go_wp2_with (go_at_call 186;refine(jw _ _ _ R _ S.a S.b).mono ?_;rintro e w2 ⟨q,rfl,hq,ht,ad⟩;have T:=fB ht hq ad;clear ht hq ad);rw[Exit.noGoto_ret];go_ret;have ag:=(S.a.go T.v).nY T.b;rw[eG,T.a,S.v]at ag;exact⟨_,q,i+m,rfl,ag,hb.trans (T.v.mono au)⟩
end
def RR(lo mid:List Nat)(t:Int)(rest:List Nat):List Int:=ints lo++(ints mid++(t::ints rest))
theorem pO(l:List Nat):(ints l).length=l.length:=by simp[ints]
theorem wE(hi:lo.length=i)(h:mid[j]?=some d):(RR lo mid t rest)[i+j]?=some (d:Int):=by have C:j<mid.length:=(bu.1 h).1;unfold RR;rw[cQ (by rw[pO];omega),pO,show i+j-lo.length=j by omega,dk (by rw[pO];exact C)];simp[ints,h]
theorem zA(hi:lo.length=i)(hk:mid.length=k):(RR lo mid t rest)[i+k]?=some t:=by unfold RR;rw[cQ (by rw[pO];omega),pO,cQ (by rw[pO];omega),pO,show i+k-lo.length-mid.length=0 by omega];rfl
theorem rH(hi:lo.length=i)(hj:j<mid.length)(d:Nat):(RR lo mid t rest).set (i+j) (d:Int)=RR lo (mid.set j d) t rest:=by unfold RR;rw[il _ _ (by rw[pO];omega),pO,show i+j-lo.length=j by omega,List.set_append_left _ _ (by rw[pO];exact hj)];simp[ints,nA]
theorem lJ(hi:lo.length=i)(hk:mid.length=k)(z:Int):(RR lo mid t rest).set (i+k) z=RR lo mid z rest:=by unfold RR;rw[il _ _ (by rw[pO];omega),pO,il _ _ (by rw[pO];omega),pO,show i+k-lo.length-mid.length=0 by omega];rfl
theorem Wi(lo mid rest:List Nat)(t:Nat):RR lo mid (t:Int) rest=ints (lo++(mid++t::rest)):=by simp[RR,ints]
theorem BK(lo mid rest:List Nat):RR lo mid 0 rest=ints (lo++(mid++0::rest)):=Wi lo mid rest 0
structure LI(X V N k L j:Nat)(lo rs rest Q:List Nat):Prop where
 eq:X=val lo+BB^j*(val rs+V*val (Q.drop j))
 lol:lo.length=j
 rsl:rs.length=k
 lt:val rs<V
 glo:Good lo
 grs:Good rs
 gq:Good Q
 ql:Q.length=L
 jl:j<=L
 zs:∀q,j+k+q<N->rest[q]?=some 0
 gz:Good rest
theorem LI.window{N:Nat}(h:LI X V N k L (j+1) lo rs rest Q):∃(lo':List Nat) (d:Nat) (ws:List Nat) (t:Nat),lo=lo'++ [d]/\lo'.length=j/\d::rs=ws++ [t]/\ws.length=k/\Good ws/\t<BB/\Good lo'/\d<BB:=by
 have p:=h.lol;have f:lo≠ []:=fun e=>by rw[e]at p;simp at p
 have H:=(List.dropLast_concat_getLast f).symm;have u:lo.getLast f::rs≠ []:=po;have O:=(List.dropLast_concat_getLast u).symm;have g:Good (lo.getLast f::rs):=nT (h.glo _ (List.getLast_mem f)) h.grs;refine⟨lo.dropLast,lo.getLast f,(lo.getLast f::rs).dropLast,(lo.getLast f::rs).getLast u,H,by simp[p],O,by simp[h.rsl],?_,g _ (List.getLast_mem u),?_,h.glo _ (List.getLast_mem f)⟩;·intro x hx;exact g x ((List.dropLast_sublist _).subset hx)
 intro x hx;exact h.glo x ((List.dropLast_sublist _).subset hx)
theorem LI.shape{lo':List Nat}{t:Nat}(h1:lo=lo'++ [d])(h2:d::rs=ws++ [t]):lo++(rs++rest)=lo'++(ws++t::rest):=by
 have:lo'++((d::rs)++rest)=lo'++((ws++ [t])++rest):=by rw[h2]
 rw[h1];simpa using this
theorem LI.less{N:Nat}(h:LI X V N k L (j+1) lo rs rest Q)(hd:d<BB):val (d::rs)<BB*V:=agN (W:=val (d::rs)) (R:=val rs) rfl h.lt hd
theorem LI.step{X V N k L j:Nat}{lo rs rest Q lo' r':List Nat}{d:Nat}(h:LI X V N k L (j+1) lo rs rest Q)(h1:lo=lo'++ [d])(hl:lo'.length=j)(hr:val r'=val (d::rs)%V)(hrl:r'.length=k)(hrg:Good r')(hV:0<V)(hd:d<BB):
 LI X V N k L j lo' r' (0::rest) (Q.set j (val (d::rs)/V))/\val (d::rs)/V<BB:=by
 have E:=h.less hd;have f:val (d::rs)/V<BB:=(ld hV).2 E;refine⟨⟨?_,hl,hrl,by rw[hr];exact k_ _ hV,?_,hrg,D9 h.gq _ f,by rw[fR];exact h.ql,by have:=h.jl;omega,?_,nT eX h.gz⟩,f⟩
 ·have e:=h.eq;have D:j<Q.length:=by rw[h.ql];have:=h.jl;omega
  rw[drop_set D,val,hr];rw[h1,val_append,hl]at e;have O:=Nat.mod_add_div (val (d::rs)) V;generalize hW:val (d::rs)=W at*
  have C:W=d+BB*val rs:=by rw[<-hW];rfl
  generalize W%V=m at*;generalize W/V=q at*;generalize val (Q.drop (j+1))=Y at*;rw[e];simp only[val,mi,eB];rw[lR];generalize BB^j=p at*
  have u:p*BB*(val rs+V*Y)=p*(BB*val rs)+p*(BB*(V*Y)):=by rw[gL,gO,gO]
  have z:p*(m+V*(q+BB*Y))=p*(m+V*q)+p*(BB*(V*Y)):=by rw[gO V,<-oE,gO p];congr 2;rw[<-gL,<-gL,ke V]
  rw[u,z,O,C,gO];omega
 ·intro x hx;exact h.glo x (by rw[h1];exact di _ hx)
 ·intro q G
  match q with
  |0=>rfl
  |q+1=>simpa using h.zs q pj
theorem LI.start{T:List Nat}(hx:(bC x).length=n)(hy:(bC y).length=k)(hkn:k<=n)(hk:0<k)(hT:val (T.take (n+1))=x*2^s)(hg:Good T)(hl:n+1<=T.length):
 LI (x*2^s) (y*2^s) (n+1) k (n-k+1) (n-k+1) (T.take (n-k+1)) ((T.drop (n-k+1)).take k) (T.drop (n+1)) (List.replicate (n-k+1) 0):=by
 have H:T.take (n+1)=T.take (n-k+1)++(T.drop (n-k+1)).take k:=by exact YT
 have hlo:(T.take (n-k+1)).length=n-k+1:=by rw[cI];omega
 have O:=hT;rw[H,val_append,hlo]at O;have u:x<BB^n:=(lY x n).2 pj;have z:BB^(k-1)<=y:=by
  have:=Jo (l:=bC y) (by intro e;rw[e]at hy;simp at hy;omega) (iQ y)
  rwa [hy,bI]at this
 refine⟨?_,hlo,by rw[cI,eJ];omega,?_,lD hg _,lD (uI hg _) _,?_,po,bj _,?_,uI hg _⟩;·have C:(List.replicate (n-k+1) (0:Nat)).drop (n-k+1)= []:=cB (by rw[List.length_replicate];exact bj _);rw[C,show val []=0 from rfl,mi,eB];exact O.symm
 ·have D:BB^(n-k+1)*val ((T.drop (n-k+1)).take k)<=x*2^s:=pj;have E:x*2^s<BB^n*2^s:=Nat.mul_lt_mul_of_pos_right u (oS pt);have G:BB^n*2^s=BB^(n-k+1)*(BB^(k-1)*2^s):=by rw[<-gL,<-Nat.pow_add,show n-k+1+(k-1)=n by omega]
  have I:BB^(k-1)*2^s<=y*2^s:=dy _ z;have f:BB^(n-k+1)*val ((T.drop (n-k+1)).take k)<BB^(n-k+1)*(BB^(k-1)*2^s):=pj;have:=Nat.lt_of_mul_lt_mul_left f;omega
 ·intro d p;rw[lL p];exact eX
 ·intro q J;omega
theorem LI.done(h:LI (x*2^s) (y*2^s) (n+1) k L 0 [] rs rest Q)(hk:k<=n+1):val Q=x/y/\val rs=(x%y)*2^s/\val ((rs++rest).take (n+1))=(x%y)*2^s:=by
 have e:=h.eq;simp only[val,Nat.pow_zero,fh,dC,fi]at e;have D:0<2^s:=oS pt;have z:x*2^s=val Q*(y*2^s)+val rs:=by rw[ke (val Q)];omega
 obtain⟨p,f⟩:=Jr z h.lt;rw[Nat.mul_div_mul_right _ _ D]at p;rw[Nat.mul_mod_mul_right]at f;refine⟨p,f,?_⟩;have:(rs++rest).take (n+1)=rs++List.replicate (n+1-k) 0:=by
  apply List.ext_getElem?;intro i;by_cases C:i<n+1
  ·rw[eQ C];by_cases u:i<k;·rw[dk (by rw[h.rsl];exact u),dk (by rw[h.rsl];exact u)]
   rw[cQ (by rw[h.rsl];omega),cQ (by rw[h.rsl];omega),h.rsl,h.zs (i-k) pj];rw[List.getElem?_replicate,if_pos pj]
  rw[fW (by rw[cI];omega),fW (by simp[h.rsl];omega)]
 rw[this,val_append,zq,mi,eB,f]
section
open Go.RowKit Go.Shelf
attribute [local go_sem] cX
theorem D_(hM:b_ M w)(hx:Sl Int w M A n c (ints (bC x)))(hy:Sl Int w M B m d (ints (bC y)))(hn:n<=5000)(hm:m<=5000):
 Calls prog 193 #[.slice A n c,.slice B m d] w (DR w M (x*y)):=by
 refine wid ?_;have H:=Hd (hx.less (M':= []) po);have G:=Hd (hy.less (M':= []) po);have HM:=Hd hM;have l1:=hx.eu;have l2:=hy.eu;have g1:=aO x;have g2:=aO y;have am:val (bC x)*val (bC y)=x*y:=by rw[bI,bI]
 have ae:=qR (t:=26) underlying26 (n+m) pj;obtain⟨W1,Y⟩:=aC (w.alloc (.cells ((List.replicate (n+m) (0:Int)).map (Value.int .i64)).toArray 3));replace ae:=ae w;rw[Y,show((n+m:Nat):Int)=(n:Int)+(m:Int)from by omega]at ae;have r1:Row W1 w.heap.size (ints (List.replicate (n+m) 0)):=by rw[<-Y,<-lH];exact Row.new _ w
 have b1:Below w w W1:=by rw[<-Y];exact bel
 have st:=yB.start (bC x) (bC y);rw[l1,l2]at st;generalize hax:bC x=a at*
 generalize hay:bC y=b at*
 have P:=Hd (And.intro l1 (And.intro l2 (And.intro g1 (And.intro g2 (And.intro am (And.intro st (And.intro r1 b1)))))));clear hx hy hM l1 l2 g1 g2 am st r1 b1 Y hax hay;refine ent func193 ntmps193 ?_;gi_wp2;gi_loopw[6] (fun i wr=>∃(k:Nat) (R:List Nat),k<=n/\i=k/\Hid (yB a b k R)/\Hid (Row wr w.heap.size (ints R))/\Below w w wr) (fun i _=>n-(intOf i).toNat);case atStart=>exact Y5
 case round=>
  obtain⟨i,R,hi,rfl,hI,hR,hb⟩:=hrel;by_cases al:i<n
  ·obtain⟨z,ac⟩:=dW a i (by rw[P.a];exact al);have L:=Hd ac;have aq:z<BB:=P.c _ (bh ac);clear ac;gi_wp2;gi_loopw[7,8] (fun o q ar=>∃(k over:Nat) (D:List Nat),k<=m/\o=over/\q=k/\Hid (Fz a b i z k over D)/\Hid (Row ar w.heap.size (ints D))/\Below w w ar) (fun _ q _=>m-(intOf q).toNat);case atStart=>exact⟨0,0,R,cf _,rfl,rfl,hI.out.row z,hR.out,hb⟩
   case round=>
    obtain⟨k,over,D,hk,rfl,rfl,W,E,aa⟩:=hrel;by_cases ax:k<m
    ·obtain⟨b1,o1,az,rfl,ag,aE,aj,-⟩:=(H.out.keep (bq aa [])).mG P.c al;obtain rfl:z=az:=by have:=L.out;rw[aj]at this;exact(fk this).symm
     obtain⟨b2,o2,Z,rfl,ai,aF,ad,-⟩:=(G.out.keep (bq aa [])).mG P.d ax;have av:D.length=n+m:=by rw[W.out.len,P.a,P.b]
     obtain⟨r,hr⟩:=dW D (i+k) pj;obtain⟨s1,s2,s3,s4,s5,s6⟩:=W.out.small aq hr ad P.d;have ab:wr.cell? ⟨w,i+k,none⟩=some (.int .i64 (r:Int)):=E.out.cell (jK hr);have aA:wr.drew.cell? ⟨w,i+k,none⟩=some (.int .i64 (r:Int)):=ab;have aD:wr.drew.frozen? ⟨w,i+k,none⟩=false:=E.out.free _;have v1:=ah ag;have v2:=ah ai;have v3:=ah ab;have ap:=W.out.step aq hr ad P.d;have C:=E.out.put (i+k) (((r+z*Z+over)%BB:Nat):Int);rw[ints_set]at C;have J:=Hd2 ap C;have e1:(r:Int)+(z:Int)*(Z:Int)+(over:Int)=((r+z*Z+over:Nat):Int):=po;have q1:((r:Int)+(z:Int)*(Z:Int)+(over:Int))/1073741824=(((r+z*Z+over)/BB:Nat):Int):=by rw[e1,BBi];exact(Int.natCast_ediv _ _).symm
     have q2:((r:Int)+(z:Int)*(Z:Int)+(over:Int))%1073741824=(((r+z*Z+over)%BB:Nat):Int):=by rw[e1,BBi];exact(Int.natCast_emod _ _).symm
     have Q:=Hd2 q1 q2;have e0:((z:Int)*(Z:Int))=((z*Z:Nat):Int):=(eI ..).symm;have k0:IntKind.i64.wrap ((i:Int)+(k:Int))=((i+k:Nat):Int):=by rw[cA];omega
     have k1:IntKind.i64.wrap ((z:Int)*(Z:Int))=((z*Z:Nat):Int):=by rw[e0,cA];omega
     have k2:IntKind.i64.wrap ((r:Int)+((z*Z:Nat):Int))=((r+z*Z:Nat):Int):=by rw[cA];omega
     have k3:IntKind.i64.wrap (((r+z*Z:Nat):Int)+(over:Int))=((r+z*Z+over:Nat):Int):=by rw[cA];omega
     have j1:(0:Int)<=(i:Int)+(k:Int):=pj;have j2:(i:Int)+(k:Int)<(n:Int)+(m:Int):=pj;have j3:((i:Int)+(k:Int)).toNat=i+k:=pj;clear ap C hr ad e0 av aj ag ai ab e1 q1 q2;gi_wp2;refine ak [] (List.range 19) pk pk ?_;simp only[show List.range 19= [0,1,2,3,4,5,6,7,8,9,10,11,12,13,14,15,16,17,18]from rfl];refine eH ?_;refine aK ?_;refine lit ?_;gi_wp2;rw[Q.a,Q.u];exact⟨⟨k+1,_,_,pj,rfl,by go_num,J.a,J.u.drew,(aa.setCell (p:=⟨w,i+k,none⟩) pD _).drew⟩,by simp[intOf];omega⟩
    ·have au:k=m:=pj;subst au;have K:=W.out;have hlo:=g_ K.lt;have hz:D[i+k]?=some 0:=K.top _ (by rw[P.b];exact bj _) (by rw[K.len,P.a,P.b];omega);have I:=K;rw[<-P.b]at I;replace I:=I.done L.out;rw[P.b]at I;have ab:wr.cell? ⟨w,i+k,none⟩=some (.int .i64 0):=E.out.cell (jK hz);have aB:wr.frozen? ⟨w,i+k,none⟩=false:=E.out.free _;have C:=E.out.put (i+k) (over:Int);rw[ints_set]at C;have J:=Hd2 I C;have k0:IntKind.i64.wrap ((i:Int)+(k:Int))=((i+k:Nat):Int):=by rw[cA];omega
     clear I C K hz;gi_wp2;exact P6
  ·have aw:i=n:=pj;subst aw;have O:=hI.out;rw[<-P.a]at O;have hv:=O.done;have hg:=O.good;have hl:=O.len;rw[P.e]at hv;rw[P.a,P.b]at hl;have Nw:w.heap.size∉M:=fun e=>by have:=HM.out _ e;omega
   have ao:=hR.out.sl Nw (n:=i+m) (by rw[jm];exact hl) pj (fU hg);have S:=fB ao hg hv;have ay:=hb.size;clear O hv hg hl Nw ao;gi_wp2_with (refine Cl 192 (jy _ _ _ R _ S.a S.b) ?_;rintro e w2 ⟨q,rfl,hq,ht,af⟩;have T:=fB ht hq af;clear ht hq af)
   go_ret;have an:=(S.a.go T.v).nY T.b;rw[eG,T.a,S.v]at an;exact⟨_,q,i+m,rfl,an,hb.trans (T.v.mono ay)⟩
theorem yC{W:World}{base:Nat}{v:Value}{xs:List Int}(h:W.ownsRow base 3 1 v n (xs.map (Value.int .i64)))(hb:base<=W.heap.size)(hn:n<=1000000000)(x:Int):
 ∃v' W',(Builtin.append_ #[26,26] 26 #[v,.slice (some ⟨W,0,none⟩) 1 1]).run prog (W.alloc (.cells #[.int .i64 x] 3))=.ok v' W'/\W'.ownsRow base 3 1 v' (n+1) ((xs++ [x]).map (Value.int .i64))/\Below base W W'/\∃gg cc,v'=.slice (some ⟨gg,0,none⟩) (n+1) cc:=by
 obtain⟨v',W',f,T,p,z,u⟩:=NI (h.alloc (.cells #[x] 3)) px hn W.heap.size x pB;exact⟨v',W',f,T,(((bL base W).alloc hb _).grown p px (fun k e=>(h.lt k e).1)),u⟩
theorem DR.BJ{wr w2:World}{O:Option Addr}{cO q:Nat}(hs:Sl Int wr M O k cO (ints l))(hq:q<=k)(ht:l.take q=bC (val l))(hv:val l=v)(hb:Below w w wr)(hb2:Below wr wr w2):
 DR w M v (.returned (.slice O q cO)) w2:=by
 have h:=(hs.go hb2).nY hq;rw[eG,ht,hv]at h;exact⟨O,q,cO,rfl,h,hb.trans (hb2.mono hb.size)⟩
theorem SX(hM:b_ M w)(hx:Sl Int w M A n c (ints (bC x)))(hy:Sl Int w M B m d (ints (bC y)))(hn:n<=5000)(hyx:y<=x):
 Calls prog 194 #[.slice A n c,.slice B m d] w (DR w M (x-y)):=by
 refine wid ?_;have H:=Hd (hx.less (M':= []) po);have G:=Hd (hy.less (M':= []) po);have HM:=Hd hM;have l1:=hx.eu;have l2:=hy.eu;have g1:=aO x;have g2:=aO y;have v1:=bI x;have v2:=bI y;have al:m<=n:=by rw[<-l1,<-l2];exact kR hyx
 generalize hax:bC x=a at*
 generalize hay:bC y=b at*
 have P:=Zw l1 l2 g1 g2 v1 v2;clear hx hy hM l1 l2 g1 g2 v1 v2 hax hay;refine ent func194 ntmps194 ?_;gi_wp2;gi_loopw[5,6,7] (fun v o i wr=>∃(k:Nat) (owed:Int) (out:List Nat),k<=n/\0<=owed/\owed<=1/\o=owed/\i=k/\Hid (Lu a b out k owed)/\Hid (wr.ownsRow w 3 1 v k ((ints out).map (Value.int .i64)))/\Below w w wr) (fun _ _ i _=>n-(intOf i).toNat);case atStart=>exact⟨0,0, [],pj,pj,pj,rfl,rfl,OL a b,lE (base:=w.heap.size) (size:=1) (e:=3) w #[] 0 pD (by simp[maxLen]) rfl,by exact bel⟩
 case round=>
  obtain⟨i,owed,out,hi,an,ao,rfl,rfl,Z,S,hb⟩:=hrel;by_cases aj:i<n
  ·obtain⟨b1,o1,f,rfl,ad,am,-,ab⟩:=(H.out.keep (bq hb [])).mG P.c aj;have q2:=g_ (fF P.d i);obtain⟨p,E⟩:=aC (aB b i);rw[E]at q2;have k1:IntKind.i64.wrap ((f:Int)-(p:Int))=(f:Int)-(p:Int):=by rw[cA];omega
   have k2:IntKind.i64.wrap ((f:Int)-(p:Int)-owed)=(f:Int)-(p:Int)-owed:=by rw[cA];omega
   have k3:IntKind.i64.wrap ((f:Int)-(p:Int)-owed+1073741824)=(f:Int)-(p:Int)-owed+1073741824:=by rw[cA];omega
   have aa:wr.drew.ownsRow w 3 1 u5 i ((ints out).map (Value.int .i64)):=S.out;have HB:=Hd (G.out.keep (bq hb.drew []));have ae:=Hd E;have v1:=ah ad;by_cases I:(f:Int)-(p:Int)-owed<0
   ·obtain⟨k,C⟩:∃k:Nat,(k:Int)=(f:Int)-(p:Int)-owed+1073741824:=⟨((f:Int)-(p:Int)-owed+1073741824).toNat,pj⟩;have D:=Hw P.c P.d Z.out (show(f:Int)-(p:Int)-owed=_ by rw[ab,E]) (k:=k) (by rw[if_pos I,C];rfl);rw[if_pos I]at D;obtain⟨v',W',W,T,Y,gg,cc,rfl⟩:=yC aa hb.drew.size pj ((f:Int)-(p:Int)-owed+1073741824);rw[<-C,show ints out++ [(k:Int)]=ints (out++ [k]) by simp[ints]]at T;have JR:=Hd W;have z:=fB T (hb.drew.trans Y) D;clear W T Y D E S aa ab C ad;gi_wp2;refine ak [] [0,1,2,3,4,5,8,6,7,9,10] pk pk ?_;refine eH ?_;refine aH fun K J=>aA rfl rfl wy fun K' u=>?_;gi_wp2;refine Cm (QD B m d b i _ HB.out P.d) ?_;rintro e w2 ⟨rfl,rfl⟩;rw[ae.out];refine u _ _ ⟨?_,J _ _ ?_⟩;clear u K' J K;·exact cG _ _
    refine lit ?_;refine eH ?_;refine aK ?_;refine lit ?_;gi_wp2_with (gi_at_builtin;refine c_ rfl fun K u=>?_;refine aI _ _ _ rfl rfl rfl JR.out (u _ _ ?_);clear u K)
    exact⟨⟨i+1,1,_,pj,pj,pj,rfl,by go_num,z.v,z.a,z.b⟩,by simp[intOf];omega⟩
   obtain⟨k,C⟩:∃k:Nat,(k:Int)=(f:Int)-(p:Int)-owed:=⟨((f:Int)-(p:Int)-owed).toNat,pj⟩;have D:=Hw P.c P.d Z.out (show(f:Int)-(p:Int)-owed=_ by rw[ab,E]) (k:=k) (by rw[if_neg I,C]);rw[if_neg I]at D;obtain⟨v',W',W,T,Y,gg,cc,rfl⟩:=yC aa hb.drew.size pj ((f:Int)-(p:Int)-owed);rw[<-C,show ints out++ [(k:Int)]=ints (out++ [k]) by simp[ints]]at T;have JR:=Hd W;have z:=fB T (hb.drew.trans Y) D;have hq:decide ((f:Int)-(p:Int)-owed<0)=false:=cE I;clear W T Y D E S aa ab C ad I k3;gi_wp2;refine ak [] [0,1,2,3,4,5,8,6,7,9,10] pk pk ?_;refine eH ?_;refine aH fun K J=>aA rfl rfl wy fun K' u=>?_;gi_wp2;refine Cm (QD B m d b i _ HB.out P.d) ?_;rintro e w2 ⟨rfl,rfl⟩;rw[ae.out];refine u _ _ ⟨?_,J _ _ ?_⟩;clear u K' J K;·exact cG _ _
   refine lit ?_;refine eH ?_;refine aK ?_;refine lit ?_;gi_wp2_with (gi_at_builtin;refine c_ rfl fun K u=>?_;refine aI _ _ _ rfl rfl rfl JR.out (u _ _ ?_);clear u K)
   exact⟨⟨i+1,0,_,pj,pj,pj,rfl,by go_num,z.v,z.a,z.b⟩,by simp[intOf];omega⟩
  ·have ai:i=n:=pj;subst ai;have ac:=Z.out;rw[<-P.a]at ac;obtain⟨f1,f2⟩:=VY ac (by rw[P.a,P.b];exact al) (by rw[P.e,P.y];exact hyx);rw[P.e,P.y]at f1;obtain⟨O,cO,rfl,ag⟩:=Sl.BO S.out (fU f2) pj HM.out;have HF:=fB ag f1 f2;clear f1 f2 ag S Z ac;gi_wp2_with (refine Cl 192 (jy _ _ _ out _ HF.out.1 HF.v) ?_;rintro e w2 ⟨q,rfl,hq,ht,af⟩;have HT:=fB ht hq af;clear ht hq af)
   go_ret;exact DR.BJ HF.out.1 HT.b HT.a HF.b hb HT.v
theorem LX{a b:Addr}{u v:Value}(hab:b.block≠a.block)(h:w.cell? b=some v):(w.setCell a u).cell? b=some v:=(eZ (w:=w) (jn w a u b.block hab)).trans h
theorem Keeps.putObj(h:Keeps M w w'){l:Nat}(hl:l∈M)(o:Obj):Keeps M w (w'.putObj l o):=⟨by rw[kh];exact h.size,fun k hk hm=>(fz (by rintro rfl;exact hm hl)).trans (h.block k hk hm)⟩
theorem Jv(hr:r<=1073741823)(hx:x<=1073741823):bits .or .i64 ((r:Int)*1073741824) (x:Int)=(r:Int)*1073741824+(x:Int):=bits_join .i64 63 pt (fun n h0 h1=>by rw[cA];omega) 30 _ _ pj pj pj pj pj pj
theorem SY(B:Nat)(b:Nat)(l:List Int):jC B (fun W=>Row W b l):=by
 intro A u z hs P p;unfold Row at*
 refine(P.block b (cR.1 hs).1 (fun e=>?_)).trans hs;obtain⟨_,o,f,K⟩:=p b e.symm;rw[hs]at f;cases f;cases K
structure ShI(w0:World)(S rb n d:Nat)(a:List Nat)(k:Nat)(W:World):Prop where
 ex:∃q r,LD a q d k r/\Row W rb (ints q)/\W.cell? ⟨S+2,0,none⟩=some (.int .i64 (r:Int))
 free:W.frozen? ⟨S+2,0,none⟩=false
 qc:W.cell? ⟨S+1,0,none⟩=some (.slice (some ⟨rb,0,none⟩) n n)
 qf:W.frozen? ⟨S+1,0,none⟩=false
 dc:W.cell? ⟨S,0,none⟩=some (.int .i64 (d:Int))
 below:Below S w0 W
theorem ShI.Jc{B:Nat}{S rb:Nat}(h1:S<=w0.heap.size)(h2:S<=B):jC B (ShI w0 S rb n d a k):=by have:=(Bz (B:=B) fun q=>Bz fun r=>((kX B (LD a q d k r)).and ((SY B rb (ints q)).and (nO B ⟨S+2,0,none⟩ (.int .i64 ((r:Nat):Int)))))).and ((Bz fun v=>jV B ⟨S+2,0,none⟩ v).and ((jV B ⟨S+1,0,none⟩ (.slice (some ⟨rb,0,none⟩) n n)).and ((nO B ⟨S,0,none⟩ (.int .i64 (d:Int))).and (kY (n:=S) (w:=w0) h1 h2))));intro W f u hs P p;obtain⟨q,r,H,O,e⟩:=hs.ex;obtain⟨z,⟨v,D,C⟩,⟨x4,x5⟩,x6,x7⟩:=this W f u ⟨⟨q,r,H,O,e⟩,⟨_,e,hs.free⟩,⟨hs.qc,hs.qf⟩,hs.dc,hs.below⟩ P p;exact⟨z,C,x4,x5,x6,x7⟩
theorem aey(hl:a.length=n)(hd:0<d):LD a (List.replicate n 0) d n 0:=by
 refine⟨?_,hd,by simp[hl],?_⟩;·rw[cB pj,cB po];simp[val]
 intro x hx;rw[lL hx];exact eX
theorem short_any(hM:b_ M w)(hx:Sl Int w M A n c (ints (bC x)))(hn:n<=5000)(hd:0<d)(hd2:d<=1073741824):
 Calls prog 227 #[.slice A n c,.int .i64 (d:Int)] w fun e w'=>∃O k cO,e=.returned (.tuple #[.slice O k cO,.int .i64 ((x%d:Nat):Int)])/\Sl Int w' M O k cO (ints (bC (x/d)))/\Below w w w':=by
 refine wid ?_;have H:=Hd (hx.less (M':= []) po);have HM:=Hd hM;have l1:=hx.eu;have g1:=aO x;have v1:=bI x;generalize hax:bC x=a at*
 have P:=fB l1 g1 v1;have st:=aey l1 hd;clear hx hM l1 g1 v1 hax;obtain⟨W1,S⟩:=aC (((w.alloc (.cells #[.int .i64 (d:Int)] 3)).alloc (.cells #[.slice none 0 0] 190)).alloc (.cells #[.int .i64 0] 3));have ao:=qR (t:=190) underlying190 n pj W1;obtain⟨z,E⟩:=aC (W1.alloc (.cells ((List.replicate n (0:Int)).map (Value.int .i64)).toArray 3));have s1:W1.heap.size=w.heap.size+3:=by rw[<-S];simp
 have r2:Row z (w.heap.size+3) (ints (List.replicate n 0)):=by rw[<-E,<-lH,<-s1];exact Row.new n W1
 rw[E,s1]at ao;have b2:Below w w z:=by rw[<-E,<-S];exact bel
 have s2:z.heap.size=w.heap.size+4:=by rw[<-E];simp[s1]
 have c0:z.cell? ⟨w,0,none⟩=some (.int .i64 (d:Int)):=by rw[<-E,<-S];simp[go_sem]
 have c1:z.cell? ⟨w+1,0,none⟩=some (.slice none 0 0):=by rw[<-E,<-S];simp[go_sem]
 have f1:z.frozen? ⟨w+1,0,none⟩=false:=by rw[<-E,<-S];simp[go_sem]
 have c2:z.cell? ⟨w+2,0,none⟩=some (.int .i64 0):=by rw[<-E,<-S];simp[go_sem]
 have f2:z.frozen? ⟨w+2,0,none⟩=false:=by rw[<-E,<-S];simp[go_sem]
 have F1:=Hd (And.intro r2 (And.intro b2 (And.intro s2 (And.intro c0 (And.intro c1 (And.intro f1 (And.intro c2 f2)))))));clear r2 b2 c0 c2 f2 E;refine sH func227 rfl ntmps227 ?_;gi_wp2_with (refine Cl 142 (LM A n c _) ?_;rintro e w3 ⟨rfl,G⟩;have al:=Hd G;clear G)
 clear ao S s1 c1 f1 s2;obtain⟨r2,b2,s2,c0,c1,f1,c2,f2⟩:=F1.out;have G:=al.out;have b3:Below w w w3:=by rw[<-G];exact(b2.setCell (p:=⟨w+1,0,none⟩) po _).alloc px _
 have s3:w3.heap.size=w.heap.size+5:=by rw[<-G];simp[s2]
 have I:∀b,b≠w.heap.size+1->b<w.heap.size+4->w3.heap[b]?=z.heap[b]?:=by intro b hb hl;rw[<-G];exact(mI _ _ b px).trans (jn _ _ _ b hb)
 have c3:w3.cell? ⟨w+4,0,none⟩=some (.slice A n c):=by rw[<-G,<-s2];simp[go_sem]
 have av:ShI w w.heap.size (w.heap.size+3) n d a n w3:=by
  refine⟨⟨_,0,st,?_,?_⟩,?_,?_,?_,?_,b3⟩;·unfold Row;rw[I _ pj pj];exact r2
  ·rw[eZ (w:=z) (I _ po po)];exact c2
  ·rw[iX (w:=z) (I _ po po)];exact f2
  ·rw[<-G];exact Iz _ (cZ c1)
  ·rw[<-G];exact IB _ (cZ c1) (by simp[f1])
  rw[eZ (w:=z) (I _ po po)];exact c0
 have SH:=Hd av;clear G I av r2 b2 c0 c1 f1 c2 f2 st al F1
 refine m_ (M:= [w.heap.size+2,w.heap.size+3]) (w0:=w3) rfl rfl trivial (eR func229 pk rfl)
  (zX (b1:=w.heap.size+4) (N:= []) (l:=a) c3 po (((H.out.more (b:=w+3) pj).more (b:=w+2) pj).keep (bq b3 _)) P.b) (cG _ _) ?hM ?hps
  (fun rest W=>∃k:Nat,(k<=n/\rest=oH a k)/\ShI w w.heap.size (w.heap.size+3) n d a k W)
  (fun _ _=>False)
  (fun _=>Bz fun k=>(kX _ _).and (ShI.Jc pD pj))
  (fun _=>kX _ _)
  ⟨n,⟨bj _,rfl⟩,SH.out⟩ ?round ?done ?stop
 case hM=>intro q J;simp at J;omega
 case hps=>intro q J;exact D8 J
 case stop=>rintro D j W hD hf;exact hf.elim
 case round=>
  rintro l s q rest W-hl aI aG aJ aH ⟨k,⟨hk,ad⟩,hS⟩;obtain⟨j,rfl⟩:∃j,k=j+1:=⟨k-1,by
   rcases eC k with rfl|h;·cases ad
   omega⟩
  rw[lI]at ad;injection ad with J hr';subst J;have an:j<n:=pj;obtain⟨xd,aj⟩:=aC (aB a j);have az:=g_ (fF P.b j);rw[aj]at az |-;have L:=Hd2 hr' aj;have HS:=Hd hS;clear hr' hS aj;gi_wp2;refine⟨aq.refl _ _ _,ShI w w.heap.size (w.heap.size+3) n d a (j+1),ShI.Jc pD pj,HS.out,?_⟩;rintro aa aK ax aD;obtain⟨⟨qs,r,hD,hR,Y⟩,ag,T,af,hdc,ac⟩:=aD;have ar:r<=1073741823:=by have:=hD.2.1;omega
  have k1:IntKind.i64.wrap ((r:Int)*1073741824)=(r:Int)*1073741824:=by rw[cA];omega
  have k2:=Jv ar az;gi_wp2;obtain⟨f,I4⟩:=aC (aa.setCell ⟨w+1+1,0,none⟩ (.int .i64 ((r:Int)*1073741824+(xd:Int))));rw[I4];have ae:∀b,b≠w.heap.size+2->f.heap[b]?=aa.heap[b]?:=fun b hb=>by rw[<-I4];exact jn _ _ _ b hb
  have x0:f.cell? ⟨w+1+1,0,none⟩=some (.int .i64 ((r:Int)*1073741824+(xd:Int))):=by rw[<-I4];exact cZ Y
  have x1:f.frozen? ⟨w+1+1,0,none⟩=false:=by rw[<-I4];simp;exact ag
  have x2:f.cell? ⟨w+1,0,none⟩=some (.slice (some ⟨w+3,0,none⟩) n n):=by rw[eZ (w:=aa) (ae _ po)];exact T
  have x3:f.frozen? ⟨w+1,0,none⟩=false:=by rw[iX (w:=aa) (ae _ po)];exact af
  have x4:f.cell? ⟨w,0,none⟩=some (.int .i64 (d:Int)):=by rw[eZ (w:=aa) (ae _ po)];exact hdc
  have x5:Row f (w.heap.size+3) (ints qs):=by unfold Row;rw[ae _ pj];exact hR
  have x6:Below w w f:=by rw[<-I4];exact ac.setCell (p:=⟨w+1+1,0,none⟩) px _
  have ah:=LG P.b hD (by rw[P.a];exact an);rw[L.out.2]at ah;obtain⟨OV,ap⟩:=dW qs j (by rw[hD.2.2.1,P.a];exact an);have y0:f.drew.cell? ⟨w+3,j,none⟩=some (.int .i64 (OV:Int)):=x5.cell (jK ap);have y1:f.drew.frozen? ⟨w+3,j,none⟩=false:=x5.free j;have e1:(r:Int)*1073741824+(xd:Int)=((r*BB+xd:Nat):Int):=by rw[ki,eI];rfl
  have z0:¬d=0:=pj;have z1:((r:Int)*1073741824+(xd:Int)).tdiv (d:Int)=(((r*BB+xd)/d:Nat):Int):=by rw[e1];exact(Int.ofNat_tdiv _ _).symm
  have z2:((r:Int)*1073741824+(xd:Int)).tmod (d:Int)=(((r*BB+xd)%d:Nat):Int):=by rw[e1];exact(Int.ofNat_tmod _ _).symm
  have z4:=g_ ah.2;have ai:=x5.put j (((r*BB+xd)/d:Nat):Int);rw[ints_set]at ai;generalize (r*BB+xd)/d=qd at*;generalize (r*BB+xd)%d=rd at*
  have z3:IntKind.i64.wrap (qd:Int)=(qd:Int):=by rw[cA];omega
  have u0:=aF (Mr:= [w.heap.size+3]) po x0;have u2:=aF (Mr:= [w.heap.size+3]) po x2;have u4:=aF (Mr:= [w.heap.size+3]) po x4;have y3:f.drew.cell? ⟨w+1+1,0,none⟩=some (.int .i64 ((r:Int)*1073741824+(xd:Int))):=x0;have y4:f.drew.frozen? ⟨w+1+1,0,none⟩=false:=x1;have k4:Keeps [w.heap.size+2,w.heap.size+3] aa f:=by rw[<-I4];exact(cG _ _).setCell (p:=⟨w+1+1,0,none⟩) (.inl po) _
  have y5:(f.setCell ⟨w+3,j,none⟩ (.int .i64 (qd:Int))).drew.cell? ⟨w+1+1,0,none⟩=some (.int .i64 ((r:Int)*1073741824+(xd:Int))):=(eZ (w:=f) (jn f _ _ _ po)).trans x0;have y6:(f.setCell ⟨w+3,j,none⟩ (.int .i64 (qd:Int))).drew.frozen? ⟨w+1+1,0,none⟩=false:=(iX (w:=f) (jn f _ _ _ po)).trans x1;have F:=Hd (And.intro k4 (And.intro ax (And.intro ah (And.intro ai (And.intro x2 (And.intro x3 (And.intro x4 x6)))))));clear k4 ax ah ai x0 x1 x2 x3 x4 x5 x6 ae I4 e1 ap hD hR T af hdc ac Y ag;refine aP [w.heap.size+3] 10 pk pk ?_;refine ay 0 ?_;refine ay 1 ?_;refine ay 2 ?_;refine ay 3 ?_;refine ay 4 ?_;refine ay 5 ?_;refine ay 6 ?_;refine ay 7 ?_;refine ay 8 ?_;refine eU 9 fun K hK=>?_;gi_wp2;refine⟨(((cG [w.heap.size+3] f).setCell (p:=⟨w+3,j,none⟩) (.inl po) _).drew).ahK,?_⟩;refine FN 1 pk rfl ?_;refine jW fun K hK K' aA=>?_;gi_wp2;refine et _ ?_;simp only[cu];gi_wp2;obtain⟨f0,f1,f2,f3,f4,f5,f6,f7⟩:=F.out;have I:Keeps [w.heap.size+2,w.heap.size+3] f ((f.setCell ⟨w+3,j,none⟩ (.int .i64 (qd:Int))).setCell ⟨w+1+1,0,none⟩ (.int .i64 (rd:Int))).drew:=(((cG _ f).setCell (p:=⟨w+3,j,none⟩) (.inl po) _).setCell (p:=⟨w+1+1,0,none⟩) (.inl po) _).drew;refine⟨(f0.trans I).to (by rw[f1];exact aG),j,⟨pj,L.out.1⟩,⟨_,rd,f2.1,((f3.uw pj 0 _).drew),cZ y5⟩,by simpa using y6,I.cell po f4,?_,I.cell po f6,?_⟩;·exact(iX (w:=f) (I.block _ (bw f _ f4) po)).trans f5
  ·exact((f7.setCell (p:=⟨w+3,j,none⟩) po _).setCell (p:=⟨w+1+1,0,none⟩) px _).drew
 case done=>
  rintro D W hD ⟨k,⟨hk,ad⟩,hS⟩ hdef;obtain rfl:=Ib ad;obtain⟨⟨qs,r,ab,hR,Y⟩,ag,T,af,hdc,ac⟩:=hS;obtain⟨e1,e2⟩:=QB ab;rw[P.v]at e1 e2;have ar:r<=1073741823:=by have:=ab.2.1;omega
  have hl:(ints qs).length=n:=by rw[jm,ab.2.2.1,P.a]
  have Nw:w.heap.size+3∉D::(w.heap.size+1)::(w.heap.size+1+1)::M:=fun e=>by
   simp only[cD]at e;rcases e with e|e|e|e;·omega
   ·omega
   ·omega
   have:=HM.out _ e;omega
  have aw:=hR.sl Nw hl pj (fU ab.2.2.2);have Z:=Hd (And.intro aw (And.intro ab.2.2.2 (And.intro e1 (And.intro e2 (And.intro ac (And.intro hR.lt (And.intro T (And.intro af (And.intro Y ag)))))))));have v2:=aF (Mr:= [w.heap.size+1]) po Y;have v1:W.drew.cell? ⟨w+1,0,none⟩=some (.slice (some ⟨w+3,0,none⟩) n n):=T;clear ab hR e1 e2 hl Nw aw hdc ad af ag;gi_wp2;refine aP [w.heap.size+1] 4 pk pk ?_;refine ay 2 ?_;refine eU 0 fun K hK=>?_;gi_wp2;refine⟨cG _ _,?_⟩;refine eU 1 fun K hK=>?_;gi_wp2;refine Cm (jw _ _ _ qs W.drew (Z.a.keep (cG _ W).drew) Z.b) ?_;rintro e C ⟨q,rfl,J,ht,hb4⟩;have HT:=fB ht J hb4;have aE:=J;clear ht J;refine hK _ _ ⟨?_,?_⟩;clear hK K;·exact bq hb4 _
  refine lit ?_;have t1:C.cell? ⟨w+1,0,none⟩=some (.slice (some ⟨w+3,0,none⟩) n n):=(bq hb4 []).cell po T;have t2:C.cell? ⟨w+1+1,0,none⟩=some (.int .i64 (r:Int)):=(bq hb4 []).cell po Y;have t3:C.frozen? ⟨w+1,0,none⟩=false:=(iX (w:=W.drew) (hb4.block _ (bw W _ T))).trans Z.out.2.2.2.2.2.2.2.1;have t4:C.frozen? ⟨w+1+1,0,none⟩=false:=(iX (w:=W.drew) (hb4.block _ (bw W _ Y))).trans Z.out.2.2.2.2.2.2.2.2.2;have t5:C.heap[D]?=some (.deferred (some [])):=(hb4.block D (cR.1 hdef).1).trans hdef;have am:Below w w C:=ac.drew.trans (hb4.mono ac.size);have hs5:=((Z.a.keep (cG _ W).drew).keep (bq hb4 _)).nY aE;have ak:=Hd2 am hs5;clear hb4 am v1 v2 T Y hs5;refine eU 3 fun K hK=>?_;gi_wp2;refine⟨(cG _ _).setCell (p:=⟨w+1,0,none⟩) (.inl po) _,?_⟩;refine FN 1 pk rfl ?_;refine jW fun K hK K' aA=>?_;gi_wp2;refine et _ ?_;simp only[cu];gi_wp2;refine⟨po,.inl ⟨_,_,rfl,jt (fA (fA t5)),?_⟩⟩;have m1:=qg (W:=(C.setCell ⟨w+1,0,none⟩ (.slice (some ⟨w+3,0,none⟩) q n)).setCell ⟨w+1+1,0,none⟩ (.int .i64 (r:Int))) (D:=D) (LX (b:=⟨w+1,0,none⟩) po (cZ t1)) (fA (fA t5));have m2:=qg (W:=(C.setCell ⟨w+1,0,none⟩ (.slice (some ⟨w+3,0,none⟩) q n)).setCell ⟨w+1+1,0,none⟩ (.int .i64 (r:Int))) (D:=D) (cZ (LX (b:=⟨w+1+1,0,none⟩) po t2)) (fA (fA t5));refine⟨.tuple #[.slice (some ⟨w+3,0,none⟩) q n,.int .i64 (r:Int)],by simp[results,go_sem,m1,m2],?_⟩;have au:=ak.u;rw[eG,HT.a,Z.c]at au;have bB:Below w w (((C.setCell ⟨w+1,0,none⟩ (.slice (some ⟨w+3,0,none⟩) q n)).setCell ⟨w+1+1,0,none⟩ (.int .i64 (r:Int))).putObj D (.deferred none)):=nV ((ak.a.setCell (p:=⟨w+1,0,none⟩) po _).setCell (p:=⟨w+1+1,0,none⟩) px _) pj pD;have kF:Keeps (D::(w.heap.size+1)::(w.heap.size+1+1)::M) C (((C.setCell ⟨w+1,0,none⟩ (.slice (some ⟨w+3,0,none⟩) q n)).setCell ⟨w+1+1,0,none⟩ (.int .i64 (r:Int))).putObj D (.deferred none)):=(((cG _ _).setCell (p:=⟨w+1,0,none⟩) (.inl po) _).setCell (p:=⟨w+1+1,0,none⟩) (.inl po) _).putObj po _;exact⟨_,q,n,by rw[Z.d],(au.keep kF).less (fun k hk=>by simp[hk]),bB⟩
end
