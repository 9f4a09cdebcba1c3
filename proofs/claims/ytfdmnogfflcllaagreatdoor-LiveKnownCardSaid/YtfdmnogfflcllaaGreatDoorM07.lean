/- Lemmas. -/
import Derived.OwnWalkIn
import Derived.WalkMore
import Derived.LoopTactic
import Derived.Deep.LoopGhost
import Derived.Test.YtfdmnogfflcllaaGreatDoorM06
import Derived.Test.YtfdmnogfflcllaaGreatDoorM05
set_option linter.unusedVariables false
set_option linter.unusedSimpArgs false
set_option maxRecDepth 100000
set_option maxHeartbeats 20000000
namespace Go.Proofs.YtfdmnogfflcllaaGreatDoor
open Go.Proofs.Tryz
theorem Bl{p:Prop}(h:p:=by
 have h:Below w w W:=(((bw w w).alloc pc _).alloc oO _).trans (hb.mono oS);refine LP (A:=A) (B:=B) (n:=n) (c:=c) (m:=m) (d:=d) i W ?_ ?_ (H.out.keep (a_ h [])) (G.out.keep (a_ h [])) (aO x) (aO y);·exact(hb.cell (p:=⟨w,0,none⟩) oS).trans oX
 exact(hb.cell (p:=⟨w+1,0,none⟩) oO).trans oX):p:=h
theorem ED{p:Prop}(h:p:=by
 clear v1 v2 S T t1 t2 Z l2;have k0:IntKind.i64.wrap ((n:Int)-(m:Int))=(n:Int)-(m:Int):=by rw[bR];omega
 refine sH func98 rfl ntmps98 ?_;gi_wp2;exact⟨_,by simp[results,go_sem],jL (u.out.symm.trans HZ.out),by exact bel⟩):p:=h
theorem EG{p:Prop}(h:p:=by gi_wp2;refine⟨((cF [w.heap.size+1] v).setCell (p:=⟨w+1,0,none⟩) (.inl oO) _).to (by rw[aa.out];omega),⟨rfl,hbW2.setCell (p:=⟨w+1,0,none⟩) oO _⟩,?_,by simp[x3]⟩;rw[<-HZ.out,u.out];exact cZ x2):p:=h
theorem ER{p:Prop}(h:p:=by
 subst v;have f:=h.out;rw[Hz u]at f;have p:=Hd f;clear f h u;gi_wp2;go_roundw;case rel=>exact⟨j,oE,by go_num,p.out,hb⟩
 case measure=>simp[intOf]):p:=h
theorem Oy{p:Prop}(h:p:=by clear v1 v2 E C J K D I;refine ent func159 rfl ntmps159 ?_;gi_wp2;go_ret;exact⟨jL (f.out.symm.trans HZ.out),bw _ _⟩):p:=h
theorem O_{p:Prop}(h:p:=by rw[O]at S;have D:=K.dr E hM J z oE v S h;have U:=Hd D;clear K hb J S C h E z v O D;gi_wp2;go_ret;exact U.out):p:=h
theorem Xb{p:Prop}(h:p:=by exact⟨n,bh _,rfl,by rw[bL (by rw[H.out.eu];exact bh _)];rfl,bw _ _⟩):p:=h
theorem Xc{p:Prop}(h:p:=by clear f h;gi_wp2;go_ret;exact⟨0,rfl,bO _,by rw[gO];exact p.out,hb⟩):p:=h
theorem XB{p:Prop}(h:p:=by
 conv=>lhs;rw[show n+1=(n-k+1)+k by omega]
 rw[List.take_add]):p:=h
theorem YT{p:Prop}(h:p:=by exact⟨0,_,bO _,rfl,P.f,P.out.2.2.2.2.2.2.1,P.out.2.2.2.2.2.2.2⟩):p:=h
variable {l us vs ws a b out q lo mid M N ms R rest rs Q:List Nat}{j x y u1 u0 v1 u2 v2 g head m i n k V r d c b1 b2 s L over X:Nat}{t o owed:Int}{w:World}{A B:Option Addr}{F:List Int}
theorem drop_cons(h:l[j]?=some x):l.drop j=x::l.drop (j+1):=by have e:j<l.length:=(bj.1 h).1;rw[cT e];congr 1;exact(bj.1 h).2
theorem DZ(hx:l[j]?=some x)(hy:l[j+1]?=some y)(hl:l.length=j+2):val (l.drop j)=y*BB+x:=by rw[drop_cons hx,drop_cons hy,cA oE];simp only[val,lP,ed];rw[js y BB,Nat.add_comm]
theorem Lr{z:Nat}(hx:l[j]?=some x)(hy:l[j+1]?=some y)(hz:l[j+2]?=some z)(hl:l.length=j+3):val (l.drop j)=(z*BB+y)*BB+x:=by rw[drop_cons hx,drop_cons hy,drop_cons hz,cA oE];simp only[val,lP,ed];rw[js (z*BB+y) BB,js z BB,gG,gG];omega
structure lZ(us vs:List Nat)(g:Nat):Prop where
 small:g<BB
 low:val us/val vs<=g
theorem Ls(hu:Good us)(hv:Good vs)(h1:us[j+1]?=some u1)(h0:us[j+2]?=some u0)(hl:us.length=j+3)(hv1:vs[j+1]?=some v1)(hlv:vs.length=j+2)(hp:0<v1)(hW:val us<BB*val vs):
 lZ us vs (min ((u0*BB+u1)/v1) (BB-1)):=by
 have f:0<val vs:=by
  rcases eh (val vs)with e|e;·rw[e,lP]at hW;omega
  exact e
 refine⟨ke (Nat.min_le_right _ _) (Nat.sub_lt eX Nat.one_pos),?_⟩;have h:val us/val vs*val vs<=val us:=Nat.div_mul_le_self _ _;have a1:val us/val vs<BB:=(j0 f).2 hW;obtain⟨b1,b2⟩:=lF hu (k:=j+1) oE;obtain⟨C,p⟩:=lF hv (k:=j+1) oE;rw[DZ h1 h0 oE]at b1 b2;rw[drop_cons hv1,cA oE]at C;simp only[val,lP,ed]at C;exact Nat.le_min.2 ⟨Lc h C b2 hp,Nat.le_sub_one_of_lt a1⟩
theorem OI(hu:Good us)(hv:Good vs)(h2:us[j]?=some u2)(h1:us[j+1]?=some u1)(h0:us[j+2]?=some u0)(hl:us.length=j+3)(hv2:vs[j]?=some v2)(hv1:vs[j+1]?=some v1)(hlv:vs.length=j+2)
 (hV0:0<val vs) (hg:lZ us vs g) (ht:(u0*BB+u1)*BB+u2<g*(v1*BB+v2)):lZ us vs (g-1):=by
 obtain⟨b1,b2⟩:=lF hu (k:=j) oE;obtain⟨C,e⟩:=lF hv (k:=j) oE;rw[Lr h2 h1 h0 hl]at b1 b2;rw[DZ hv2 hv1 hlv]at C e;have h:=OB C b2 ht;have f:val us/val vs<g:=(j0 hV0).2 h;have:=hg.small;exact⟨oE,oE⟩
theorem OJ(hu:Good us)(hv:Good vs)(h2:us[j]?=some u2)(h1:us[j+1]?=some u1)(h0:us[j+2]?=some u0)(hl:us.length=j+3)(hv2:vs[j]?=some v2)(hv1:vs[j+1]?=some v1)(hlv:vs.length=j+2)
 (hp:0<v1) (hg:lZ us vs g) (ht:g*(v1*BB+v2)<=(u0*BB+u1)*BB+u2):g*val vs<=val us+val vs:=by
 obtain⟨b1,b2⟩:=lF hu (k:=j) oE;obtain⟨C,e⟩:=lF hv (k:=j) oE;rw[Lr h2 h1 h0 hl]at b1 b2;rw[DZ hv2 hv1 hlv]at C e;refine OC e b1 ht ?_;have:=hg.small;have:1*BB<=v1*BB:=dy _ hp;omega
theorem SN(hg:g<BB)(hv:v2<BB)(hh:g*v1<=head)(h:BB-1<head-g*v1):g*(v1*BB+v2)<=head*BB+u2:=by
 have e:g*(v1*BB+v2)=g*v1*BB+g*v2:=by rw[gG,gw]
 have p:g*v2<=BB*BB:=gp oE oE;have f:(g*v1+BB)*BB<=head*BB:=dy _ oE;rw[fX]at f;omega
theorem D5(hh:g*v1<=head):(head-g*v1)*BB+u2<g*v2↔head*BB+u2<g*(v1*BB+v2):=by
 have e:g*(v1*BB+v2)=g*v1*BB+g*v2:=by rw[gG,gw]
 have f:(head-g*v1)*BB=head*BB-g*v1*BB:=Nat.sub_mul ..;have h:g*v1*BB<=head*BB:=dy _ hh;omega
theorem zW{t:Nat}(hus:us=ws++ [t])(hlw:ws.length=vs.length)(hv:Good vs)(hV0:0<val vs)(hg:lZ us vs g)
 (hge:0<=(t:Int)+(aY ((List.range vs.length).map fun j=>(aB ws j:Int)-(g:Int)*(aB vs j:Int)) 0).2):
 g=val us/val vs/\val (aY ((List.range vs.length).map fun j=>(aB ws j:Int)-(g:Int)*(aB vs j:Int)) 0).1=val us%val vs/\(t:Int)+(aY ((List.range vs.length).map fun j=>(aB ws j:Int)-(g:Int)*(aB vs j:Int)) 0).2=0:=by
 have h:=Hq g hlw;obtain⟨G,e⟩:=ji ((List.range vs.length).map fun j=>(aB ws j:Int)-(g:Int)*(aB vs j:Int)) 0;rw[cC,fR]at e;have f:=jh _ G;rw[e]at f;have O:=jh vs hv;have E:val us=val ws+BB^vs.length*t:=by rw[hus,val_append,hlw];simp[val]
 generalize (aY ((List.range vs.length).map fun j=>(aB ws j:Int)-(g:Int)*(aB vs j:Int)) 0).2=o at*
 generalize val (aY ((List.range vs.length).map fun j=>(aB ws j:Int)-(g:Int)*(aB vs j:Int)) 0).1=m at*
 have H:((BB^vs.length:Nat):Int)=(BB:Int)^vs.length:=Int.natCast_pow ..;rw[<-H]at h;have u:(m:Int)+((BB^vs.length:Nat):Int)*((t:Int)+o)=(val us:Int)-(g:Int)*(val vs:Int):=by rw[ml,E,ju,eJ];omega
 have I:0<=((BB^vs.length:Nat):Int)*((t:Int)+o):=mN oE hge;have D:g*val vs<=val us:=by have:((g*val vs:Nat):Int)=(g:Int)*(val vs:Int):=eJ ..;omega
 have K:g=val us/val vs:=Nat.le_antisymm ((Nat.le_div_iff_mul_le hV0).2 D) hg.low;have v:=Nat.mod_add_div (val us) (val vs);have J:=jN (val us) hV0;rw[<-K]at v;have z:(m:Int)+((BB^vs.length:Nat):Int)*((t:Int)+o)=((val us%val vs:Nat):Int):=by
  rw[u];have:((val vs*g:Nat):Int)=(g:Int)*(val vs:Int):=by rw[js];exact eJ ..
  omega
 obtain⟨C,p⟩:=Hr f oE z;exact⟨K,p,C⟩
theorem D6{t:Nat}(hus:us=ws++ [t])(hlw:ws.length=vs.length)(hv:Good vs)(QA:g*val vs<=val us+val vs){m:List Nat}
 (hmo:aY ((List.range vs.length).map fun j=>(aB ws j:Int)-(g:Int)*(aB vs j:Int)) 0=(m,o)) (hlt:(t:Int)+o<0):
 1<=g/\g-1=val us/val vs/\val (aY ((List.range vs.length).map fun j=>(aB m j:Int)+(aB vs j:Int)) 0).1=val us%val vs/\(t:Int)+o+(aY ((List.range vs.length).map fun j=>(aB m j:Int)+(aB vs j:Int)) 0).2=0:=by
 have p:=Hq g hlw;obtain⟨u,h⟩:=ji ((List.range vs.length).map fun j=>(aB ws j:Int)-(g:Int)*(aB vs j:Int)) 0;rw[cC,fR]at h;rw[hmo]at p u h;have v:=jh _ u;simp only at p u h v;rw[h]at v;have aa:=jh vs hv;have I:val us=val ws+BB^vs.length*t:=by rw[hus,val_append,hlw];simp[val]
 have J:=VL (ws:=m) (vs:=vs) h;obtain⟨P,z⟩:=ji ((List.range vs.length).map fun j=>(aB m j:Int)+(aB vs j:Int)) 0;rw[cC,fR]at z;have C:=jh _ P;rw[z]at C;generalize (aY ((List.range vs.length).map fun j=>(aB m j:Int)+(aB vs j:Int)) 0).2=o2 at*
 generalize val (aY ((List.range vs.length).map fun j=>(aB m j:Int)+(aB vs j:Int)) 0).1=n at*
 have S:((BB^vs.length:Nat):Int)=(BB:Int)^vs.length:=Int.natCast_pow ..;rw[<-S]at p J;have U:((BB^vs.length:Nat):Int)*((t:Int)+o)=((BB^vs.length:Nat):Int)*(t:Int)+((BB^vs.length:Nat):Int)*o:=ml ..;have T:((val us:Nat):Int)=(val ws:Int)+((BB^vs.length:Nat):Int)*(t:Int):=by rw[I,ju,eJ]
 have Z:(val m:Int)+((BB^vs.length:Nat):Int)*((t:Int)+o)=(val us:Int)-(g:Int)*(val vs:Int):=oE;have h3:((BB^vs.length:Nat):Int)*((t:Int)+o)<=((BB^vs.length:Nat):Int)*(-1):=jb oE oE;have E:((g*val vs:Nat):Int)=(g:Int)*(val vs:Int):=eJ ..;have D:val us<g*val vs:=oE;have O:1<=g:=by
  rcases eh g with e|e;·subst e;simp at D
  exact e
 obtain⟨f,rfl⟩:∃f,g=f+1:=⟨g-1,oE⟩;rw[fX,fi]at QA D E;have K:val us=f*val vs+(val us-f*val vs):=oE;obtain⟨h6,h7⟩:=Jr K oE;have W:((BB^vs.length:Nat):Int)*((t:Int)+o+o2)=((BB^vs.length:Nat):Int)*((t:Int)+o)+((BB^vs.length:Nat):Int)*o2:=ml ..;have G:(n:Int)+((BB^vs.length:Nat):Int)*((t:Int)+o+o2)=((val us-f*val vs:Nat):Int):=oE;obtain⟨H,Y⟩:=Hr C oE G;exact⟨O,oE,oE,H⟩
theorem D7(l:List Nat)(i:Nat):val (l.drop i)=aB l i+BB*val (l.drop (i+1)):=by
 by_cases h:i<l.length;·rw[cT h,val];simp[aB,List.getD,bX h]
 rw[cA oE,cA oE];simp[val,aB,List.getD,fL (show l.length<=i by omega)]
theorem fF(h:Good l)(i:Nat):aB l i<BB:=by
 unfold aB List.getD
 cases e:l[i]? with
 |none=>exact eX
 |some d=>exact h d (aR e)
def Lu(a b out:List Nat)(i:Nat)(owed:Int):Prop:=(val out:Int)+((BB^i:Nat):Int)*((val (a.drop i):Int)-(val (b.drop i):Int)-owed)=(val a:Int)-(val b:Int)/\out.length=i/\Good out/\0<=owed/\owed<=1
theorem OL(a b:List Nat):Lu a b [] 0 0:=⟨by simp[val],rfl,tu,oE,oE⟩
theorem Hw{n:Int}(ha:Good a)(hb:Good b)(h:Lu a b out i owed)(hn:n=(aB a i:Int)-(aB b i:Int)-owed)(hk:(k:Int)=if n<0 then n+(BB:Int)else n):
 Lu a b (out++ [k]) (i+1) (if n<0 then 1 else 0):=by
 obtain⟨e,f,u,D,K⟩:=h;have z:=fF ha i;have lb:=fF hb i;have v:k<BB:=by split at hk<;>omega
 refine⟨?_,by simp[f],zu u v,by split<;>omega,by split<;>omega⟩;rw[val_append,f,lj];rw[D7 a i,D7 b i]at e;simp only[val,lP,ed];rw[ju,eJ,eJ];rw[ju,ju,eJ,eJ]at e;generalize ((BB^i:Nat):Int)=p at*
 generalize (val (a.drop (i+1)):Int)=x at*
 generalize (val (b.drop (i+1)):Int)=y at*
 have G:(aB a i:Int)+(BB:Int)*x-((aB b i:Int)+(BB:Int)*y)-owed=(k:Int)+(BB:Int)*(x-y-(if n<0 then 1 else 0)):=by rw[Int.mul_sub,Int.mul_sub,hk];split<;>omega
 rw[G,ml,<-Int.mul_assoc]at e;omega
theorem VY(h:Lu a b out a.length owed)(hb:b.length<=a.length)(hle:val b<=val a):val out=val a-val b/\Good out:=by
 obtain⟨e,u,f,D,K⟩:=h;rw[cA pc,cA hb]at e;have z:=jh _ f;rw[u]at z;simp only[val]at e;generalize BB^a.length=p at*
 have v:owed=0:=by
  by_cases c:owed=0;·exact c
  have:owed=1:=oE;subst this;rw[show((0:Nat):Int)-((0:Nat):Int)-1= -1 from rfl]at e;omega
 subst v;refine⟨?_,f⟩;rw[show((0:Nat):Int)-((0:Nat):Int)-0=0 from rfl]at e;omega
theorem drop_set(h:i<l.length)(z:Nat):(l.set i z).drop i=z::l.drop (i+1):=by rw[cT (by simpa using h),List.drop_set_of_lt oE];simp
def LD(a q:List Nat)(V i r:Nat):Prop:=val (a.drop i)=val (q.drop i)*V+r/\r<V/\q.length=a.length/\Good q
theorem LG(ha:Good a)(h:LD a q V (i+1) r)(hi:i<a.length):
 LD a (q.set i ((r*BB+aB a i)/V)) V i ((r*BB+aB a i)%V)/\(r*BB+aB a i)/V<BB:=by
 obtain⟨u,v,z,D⟩:=h;obtain⟨E,P,p⟩:=OA (x:=aB a i) (show 0<V by omega) u v;have f:=p (fF ha i);refine⟨⟨?_,P,by simpa using z,?_⟩,f⟩;·rw[D7,E,drop_set oE,val]
 ·intro d e;rcases gN e with e|rfl;·exact D d e
  exact f
theorem QB(h:LD a q V 0 r):val q=val a/V/\r=val a%V:=by obtain⟨e,f,-,-⟩:=h;rw[fh,fh]at e;exact Jr e f
theorem LH{lo hi mid:Nat}(h1:lo*V<=r)(h2:r<(hi+1)*V)(hm:mid=(lo+hi+1)/2)(hl:lo<hi):
 (mid*V<=r->mid*V<=r/\r<(hi+1)*V/\hi-mid<hi-lo/\mid<=hi)/\(¬mid*V<=r->lo*V<=r/\r<(mid-1+1)*V/\mid-1-lo<hi-lo/\lo<=mid-1):=by
 refine⟨fun h=>⟨h,h2,oE,oE⟩,fun h=>⟨h1,?_,oE,oE⟩⟩;rw[show mid-1+1=mid by omega];omega
theorem search_end{lo:Nat}(h1:lo*V<=r)(h2:r<(lo+1)*V):lo=r/V/\r-lo*V=r%V:=by rw[fX,fi]at h2;exact Jr (q:=lo) (r:=r-lo*V) oE oE
theorem LJ(m n:Nat):Nat.gcd n (m%n)=Nat.gcd m n:=by rw[Nat.gcd_comm n,<-Nat.gcd_rec,Nat.gcd_comm]
section
open Go.RowKit
theorem jm(l:List Nat):(ints l).length=l.length:=by simp[ints]
theorem ints_at{x:Int}(h:(ints l)[k]?=some x):∃d:Nat,l[k]?=some d/\x=(d:Int):=by unfold ints at h;rw[cP]at h;obtain⟨d,e,f⟩:=Option.map_eq_some_iff.1 h;exact⟨d,e,f.symm⟩
theorem eG(l:List Nat)(k:Nat):(ints l).take k=ints (l.take k):=by simp[ints,List.map_take]
theorem SS(l:List Nat)(k:Nat):(ints l).drop k=ints (l.drop k):=by simp[ints,List.map_drop]
theorem ints_set(l:List Nat)(k d:Nat):(ints l).set k (d:Int)=ints (l.set k d):=by simp[ints,oe]
theorem lH(n:Nat):List.replicate n (0:Int)=ints (List.replicate n 0):=by simp[ints]
theorem VZ(h:d<BB):i64 (d:Int):=by have:BB<=1073741824:=bh _;unfold i64;omega
theorem fU(h:Good l):∀x,x∈ints l->i64 x:=by intro x hx;obtain⟨d,e,rfl⟩:=ev.1 hx;exact VZ (h d e)
theorem g_(h:d<BB):d<=1073741823:=l_ h
theorem Hy(h:d<=1073741823):d<BB:=Nat.lt_succ_of_le h
theorem Sl.mG(h:Sl Int w M A n c (ints l))(hg:Good l)(hk:k<n):
 ∃(b o d:Nat),A=some ⟨b,o,none⟩/\w.cell? ⟨b,o+k,none⟩=some (.int .i64 (d:Int))/\d<=1073741823/\l[k]?=some d/\aB l k=d:=by
 obtain⟨b,o,x,rfl,I,-,-,hx⟩:=h.pR hk;obtain⟨d,e,rfl⟩:=ints_at hx;exact⟨b,o,d,rfl,I,g_ (hg d (aR e)),e,by simp[aB,List.getD,e]⟩
theorem Sl.eu(h:Sl Int w M A n c (ints l)):l.length=n:=by rw[<-jm];exact h.len
theorem Hz(h:l[k]?=some 0):mD (l.take (k+1))=mD (l.take k):=by rw[eo,h,ja,ad_]
theorem H_(hg:Good l)(h:l[k]?=some d)(hd:d≠0):mD (l.take (k+1))=l.take (k+1):=by
 have e:l.take (k+1)=l.take k++ [d]:=by rw[eo,h,ja]
 rw[e];exact SC (by rw[<-e];exact lD hg _) hd
theorem LK:mD []= []:=by unfold mD;simp[val,bU]
def DR(w:World)(M:List Nat)(x:Nat)(e:Ending)(w':World):Prop:=∃A n c,e=.returned (.slice A n c)/\Sl Int w' M A n c (ints (bC x))/\Below w w w'
def ZV(w:World)(M:List Nat)(v:Value)(z:Int):Prop:=∃A n c,v=.agg #[.bool (aG z),.slice A n c]/\Sl Int w M A n c (ints (bG z))
theorem ZV.go{w w':World}{M:List Nat}{v:Value}{z:Int}(h:ZV w M v z)(hb:Below w w w'):ZV w' M v z:=by obtain⟨A,n,c,rfl,h⟩:=h;exact⟨A,n,c,rfl,h.go hb⟩
theorem ZV.zero(w:World)(M:List Nat):ZV w M (.agg #[.bool false,.slice none 0 0]) 0:=⟨none,0,0,rfl,by rw[show bG 0= []from bU];exact Sl.nil0⟩
open Go.Shelf
attribute [local go_sem] cK
theorem jw(A:Option Addr)(n c:Nat)(l:List Nat)(w:World)(hx:Sl Int w M A n c (ints l))(hg:Good l):
 Calls prog 186 #[.slice A n c] w fun e w'=>∃k,e=.returned (.slice A k c)/\k<=n/\l.take k=bC (val l)/\Below w w w':=by
 refine wid ?_;have H:=Hd hx;have HG:=Hd hg;have hs:=hx.small;have I:=hx.cap;clear hx hg;refine ent func186 rfl ntmps186 ?_;gi_wp2;gi_loopw[3] (fun i wr=>∃k:Nat,k<=n/\i=.int .i64 k/\Hid (mD (l.take k)=bC (val l))/\Below w w wr) (fun i _=>(intOf i).toNat);case atStart=>exact Xb
 case round=>
  obtain⟨k,z,rfl,h,hb⟩:=hrel;rcases eh k with rfl|O;·have f:=h.out;rw[gO,LK]at f;have p:=Hd f;have C:=nZ (k:=0) underlying190 (sz:=1) (fun w=>by kernel_rfl) A (bO n) I;exact Xc
  ·obtain⟨j,rfl⟩:∃j,k=j+1:=⟨k-1,oE⟩;obtain⟨b,o,d,rfl,G,J,u,-⟩:=(H.out.keep (a_ hb M)).mG HG.out (show j<n by omega);have D:((j+1:Nat):Int)-1=(j:Int):=oE;have E:IntKind.i64.wrap ((j:Nat):Int)=(j:Int):=by rw[bR];omega
   by_cases v:d=0;·exact ER
   have f:=h.out;rw[H_ HG.out u v]at f;have p:=Hd f;have K:((d:Int)==0)=false:=by simpa using v
   have C:=nZ (k:=j+1) underlying190 (sz:=1) (fun w=>by kernel_rfl) (some ⟨b,o,none⟩) z I;clear f h u;gi_wp2;go_ret;exact⟨j+1,rfl,z,p.out,hb⟩
theorem jy(A:Option Addr)(n c:Nat)(l:List Nat)(w:World)(hx:Sl Int w M A n c (ints l))(hg:Good l):
 Calls prog 192 #[.slice A n c] w fun e w'=>∃k,e=.returned (.slice A k c)/\k<=n/\l.take k=bC (val l)/\Below w w w':=by
 refine wid ?_;have H:=Hd hx;have HG:=Hd hg;have hs:=hx.small;have I:=hx.cap;clear hx hg;refine ent func192 rfl ntmps192 ?_;gi_wp2;gi_loopw[3] (fun i wr=>∃k:Nat,k<=n/\i=.int .i64 k/\Hid (mD (l.take k)=bC (val l))/\Below w w wr) (fun i _=>(intOf i).toNat);case atStart=>exact Xb
 case round=>
  obtain⟨k,z,rfl,h,hb⟩:=hrel;rcases eh k with rfl|O;·have f:=h.out;rw[gO,LK]at f;have p:=Hd f;have C:=nZ (k:=0) underlying26 (sz:=1) (fun w=>by kernel_rfl) A (bO n) I;exact Xc
  ·obtain⟨j,rfl⟩:∃j,k=j+1:=⟨k-1,oE⟩;obtain⟨b,o,d,rfl,G,J,u,-⟩:=(H.out.keep (a_ hb M)).mG HG.out (show j<n by omega);have D:((j+1:Nat):Int)-1=(j:Int):=oE;have E:IntKind.i64.wrap ((j:Nat):Int)=(j:Int):=by rw[bR];omega
   by_cases v:d=0;·exact ER
   have f:=h.out;rw[H_ HG.out u v]at f;have p:=Hd f;have K:((d:Int)==0)=false:=by simpa using v
   have C:=nZ (k:=j+1) underlying26 (sz:=1) (fun w=>by kernel_rfl) (some ⟨b,o,none⟩) z I;clear f h u;gi_wp2;go_ret;exact⟨j+1,rfl,z,p.out,hb⟩
theorem BI(A:Option Addr)(n c:Nat)(l:List Nat)(i:Nat)(w:World)(hx:Sl Int w M A n c (ints l))(hg:Good l):
 Calls prog 259 #[.slice A n c,.int .i64 (i:Int)] w fun e w'=>e=.returned (.int .i64 (aB l i:Int))/\w'=w:=by
 refine wid ?_;by_cases u:i<n;·obtain⟨b,o,d,rfl,z,f,v,h⟩:=hx.mG hg u;have p:=Hd h;have hs:=hx.small;clear hx hg h v;refine ent func259 rfl ntmps259 ?_;gi_wp2;go_ret;exact⟨by rw[p.out];rfl,rfl⟩
 ·have f:aB l i=0:=by
    unfold aB List.getD;rw[fL (by rw[hx.eu];omega)];rfl
  rw[f];clear hx hg f;refine ent func259 rfl ntmps259 ?_;gi_wp2;go_ret;exact⟨rfl,rfl⟩
theorem QD(A:Option Addr)(n c:Nat)(l:List Nat)(i:Nat)(w:World)(hx:Sl Int w M A n c (ints l))(hg:Good l):
 Calls prog 232 #[.slice A n c,.int .i64 (i:Int)] w fun e w'=>e=.returned (.int .i64 (aB l i:Int))/\w'=w:=by
 refine wid ?_;by_cases u:i<n;·obtain⟨b,o,d,rfl,z,f,v,h⟩:=hx.mG hg u;have p:=Hd h;have hs:=hx.small;clear hx hg h v;refine ent func232 rfl ntmps232 ?_;gi_wp2;go_ret;exact⟨by rw[p.out];rfl,rfl⟩
 ·have f:aB l i=0:=by
    unfold aB List.getD;rw[fL (by rw[hx.eu];omega)];rfl
  rw[f];clear hx hg f;refine ent func232 rfl ntmps232 ?_;gi_wp2;go_ret;exact⟨rfl,rfl⟩
def qK(x y:Nat):Int:=if x<y then-1 else if y<x then 1 else 0
theorem pI(h:x<y):qK x y= -1:=by simp[qK,h]
theorem pJ(h:y<x):qK x y=1:=by unfold qK;rw[if_neg oE,if_pos h]
theorem uM(h:x=y):qK x y=0:=by subst h;simp[qK]
theorem tH(A B:Option Addr)(n c m d:Nat)(x y:Nat)(w:World)(hx:Sl Int w M A n c (ints (bC x)))(hy:Sl Int w N B m d (ints (bC y))):
 CB 159 #[.slice A n c,.slice B m d] (.int .i64 (qK x y)) w:=by
 refine wid ?_;have H:=Hd hx;have G:=Hd hy;have hs:=hx.small;have ao:=hy.small;have D:=hx.eu;have I:=hy.eu;have v1:=bI x;have v2:=bI y;have E:=aO x;have C:=aO y;have J:=iQ x;have K:=iQ y;generalize hz:qK x y=z;have HZ:=Hd hz;clear hx hy hz;by_cases ae:n=m
 ·subst ae;generalize bC x=a at*;generalize bC y=b at*;have P:=Zw D I v1 v2 E C;clear v1 v2 E C J K D I;refine ent func159 rfl ntmps159 ?_;gi_wp2
  gi_loopw[5] (fun i wr=>∃k:Nat,k<=n/\i=.int .i64 ((k:Int)-1)/\Hid (a.drop k=b.drop k)/\Below w w wr) (fun i _=>(intOf i+1).toNat);case atStart=>exact⟨n,bh _,by go_num,by rw[cA (by rw[P.a];exact bh _),cA (by rw[P.b];exact bh _)];rfl,bw _ _⟩
  case round=>
   obtain⟨k,hk,rfl,h,hb⟩:=hrel;rcases eh k with rfl|an;·have W:=h.out;rw[fh,fh]at W;have f:=Hd (uM (show x=y by rw[<-P.c,<-P.d,W]));clear W h;gi_wp2;go_ret;exact⟨jL (f.out.symm.trans HZ.out),hb⟩
   ·obtain⟨j,rfl⟩:∃j,k=j+1:=⟨k-1,oE⟩;obtain⟨b1,o1,p,rfl,T,ai,aa,-⟩:=(H.out.keep (a_ hb M)).mG P.e (show j<n by omega);obtain⟨b2,o2,v,rfl,U,aj,ab,-⟩:=(G.out.keep (a_ hb N)).mG P.y (show j<n by omega);have Y:((j+1:Nat):Int)-1=(j:Int):=oE;rw[Y];have al:j<n:=oE;have c1:=ah T;have c2:=ah U;have c3:=ah (w:=wr.drew) T;have c4:=ah (w:=wr.drew) U;have L:=Hd2 aa ab;clear aa ab Y T U;by_cases O:p<v
    ·have f:=Hd (pI (show x<y by rw[<-P.c,<-P.d];exact uJ P.e (P.a.trans P.b.symm) L.a L.u h.out O));have af:decide ((p:Int)<(v:Int))=true:=by simpa using O
     clear h;gi_wp2;refine ak [] [0,1,2,3,4,5,6,7,8] oF oF ?_;refine eH ?_;refine aK ?_;refine lit ?_;gi_wp2;go_ret;exact⟨jL (f.out.symm.trans HZ.out),hb.drew⟩
    have af:decide ((p:Int)<(v:Int))=false:=by simpa using O
    by_cases S:v<p
    ·have f:=Hd (pJ (show y<x by rw[<-P.c,<-P.d];exact uJ P.y (P.b.trans P.a.symm) L.u L.a h.out.symm S));have ag:decide ((v:Int)<(p:Int))=true:=by simpa using S
     clear h;gi_wp2;refine ak [] [0,1,2,3,4,5,6,7,8] oF oF ?_;refine eH ?_;refine aK ?_;refine lit ?_;gi_wp2;refine ak [] [0,1,2,3,4,5,6,7,8] oF oF ?_;refine eH ?_;refine aK ?_;refine lit ?_;gi_wp2;go_ret;exact⟨jL (f.out.symm.trans HZ.out),hb.drew.drew⟩
    have ag:decide ((v:Int)<(p:Int))=false:=by simpa using S
    have Z:p=v:=oE;have ac:a.drop j=b.drop j:=by rw[drop_cons L.a,drop_cons L.u,h.out,Z]
    have ad:=Hd ac;clear ac h Z;gi_wp2;refine ak [] [0,1,2,3,4,5,6,7,8] oF oF ?_;refine eH ?_;refine aK ?_;refine lit ?_;gi_wp2;refine ak [] [0,1,2,3,4,5,6,7,8] oF oF ?_;refine eH ?_;refine aK ?_;refine lit ?_;gi_wp2;go_roundw;case rel=>exact⟨j,oE,by go_num,ad.out,hb.drew.drew⟩
    case measure=>simp[intOf]
 ·by_cases am:n<m;·have f:=Hd (pI (show x<y by rw[<-v1,<-v2];exact rF E K oE));exact Oy
  have f:=Hd (pJ (show y<x by rw[<-v1,<-v2];exact rF C J oE));exact Oy
def oH(l:List Nat)(k:Nat):List (Array Value):=((List.range k).reverse).map (fun i=>#[.int .i64 ((i:Nat):Int),.int .i64 (aB l i:Int)])
theorem lI(l:List Nat)(k:Nat):oH l (k+1)=#[.int .i64 ((k:Nat):Int),.int .i64 (aB l k:Int)]::oH l k:=by unfold oH;rw[nF,List.reverse_append];rfl
theorem OM(l:List Nat):oH l 0= []:=rfl
theorem Ia(l:List Nat):∀(n k:Nat),k<=n->∃pre,oH l n=pre++oH l k
 |0,k,h=>by have:k=0:=Nat.le_zero.1 h;subst this;exact⟨[],rfl⟩
 |n+1,k,h=>by
  rcases lh n k with g|g;·obtain rfl:k=n+1:=oE;exact⟨[],rfl⟩
  obtain⟨pre,hp⟩:=Ia l n k g;exact⟨#[.int .i64 ((n:Nat):Int),.int .i64 (aB l n:Int)]::pre,by rw[lI,hp];rfl⟩
theorem zX{w0:World}{N:List Nat}(h1:w0.cell? ⟨b1,0,none⟩=some (.slice A n c))(m1:b1∉M)
 (hx:Sl Int w0 M A n c (ints l)) (hg:Good l):
 Yields Wd prog 229 #[.pointer (some ⟨b1,0,none⟩)] w0 M (oH l n):=by
 intro lp J Jx Jp W u hJ ad C O;have hs:=hx.small;have HX:=Hd hx;have HG:=Hd hg;have T:=Hd O;have P:=Hd C;have G:=u.cell m1 h1;clear hx hg O C h1;simp only[fk,dx,de];refine ent func229 rfl ntmps229 ?_;gi_wp2;gi_loopw[3] (fun i wr=>∃k:Nat,k<=n/\i=.int .i64 ((k:Int)-1)/\Hid (J (oH l k) wr)/\Hid (bn W.heap.size M W wr)) (fun i _=>(intOf i+1).toNat);case atStart=>exact⟨n,bh _,by go_num,P.out,bn.refl _ _ _⟩
 case round=>
  obtain⟨k,Z,rfl,E,h⟩:=hrel;rcases eh k with rfl|af;·have f:=E.out;rw[OM]at f;have S:=Hd f;clear f;gi_wp2;go_end0;exact .inl ⟨⟨_,rfl⟩,.inl S.out⟩
  ·obtain⟨j,rfl⟩:∃j,k=j+1:=⟨k-1,oE⟩;have z:((j+1:Nat):Int)-1=(j:Int):=oE;rw[z];have Y:j<n:=oE;have H:=u.Uh h.out u.size;obtain⟨b,o,d,rfl,ae,hd,aa,p⟩:=(HX.out.keep H).mG HG.out Y;have e2:=(h.out.IC (bu W _ G) m1 G);have f:=E.out;rw[lI,p]at f;have K:∃v,oH l n=v++#[.int .i64 ((j:Nat):Int),.int .i64 (d:Int)]::oH l j:=by
    obtain⟨v,I⟩:=Ia l n (j+1) Z;rw[lI,p]at I;exact⟨v,I⟩
   obtain⟨fn,ag,ab,ac,hy,D⟩:=T.out W.heap.size _ _ wr K pc h.out.size h.out f;have U:=Hd D;clear D f K H aa p z;gi_wp2_with (refine U.out.mono ?_;rintro e W3 (⟨rfl,hJ3,hk3⟩|⟨rfl,hx3⟩|⟨ch,rfl,hp3⟩))
   ·go_roundw;case rel=>exact⟨j,oE,by go_num,hJ3,h.out.trans hk3⟩
    case measure=>simp[intOf]
   ·refine bodyPost_ret (results_none rfl _ _ _) rfl ?_;exact .inl ⟨⟨_,rfl⟩,.inr hx3⟩
   exact⟨rfl,.inr ⟨ch,rfl,hp3⟩⟩
theorem Jt(A:Option Addr)(n c:Nat)(w:World):
 Calls prog 187 #[.slice A n c] w fun e w'=>e=.returned (.func (.func 229) #[] #[.pointer (some ⟨w,0,none⟩)])/\w.alloc (.cells #[.slice A n c] 190)=w':=by
 go_enter func187,ntmps187;go_wp2;go_ret;exact⟨rfl,rfl⟩
theorem LM(A:Option Addr)(n c:Nat)(w:World):
 Calls prog 142 #[.slice A n c] w fun e w'=>e=.returned (.func (.func 229) #[] #[.pointer (some ⟨w,0,none⟩)])/\w.alloc (.cells #[.slice A n c] 190)=w':=by
 refine wid ?_;refine ent func142 rfl ntmps142 ?_;gi_wp2_with (refine Cl 187 (Jt A n c _) ?_;rintro e f ⟨rfl,rfl⟩)
 go_ret;exact⟨rfl,rfl⟩
theorem D8{x:Array Value}(h:x∈oH l k):x.size=2:=by unfold oH at h;obtain⟨i,-,rfl⟩:=ev.1 h;rfl
theorem Ib(h: []=oH l k):k=0:=by
 cases k with
 |zero=>rfl
 |succ k=>rw[lI]at h;cases h
theorem jo(A B:Option Addr)(n c m d:Nat)(x y:Nat)(w:World)(hx:Sl Int w M A n c (ints (bC x)))(hy:Sl Int w N B m d (ints (bC y))):
 CB 98 #[.slice A n c,.slice B m d] (.int .i64 (qK x y)) w:=by
 refine wid ?_;have H:=Hd (hx.less (M':= []) oO);have G:=Hd (hy.less (M':= []) oO);have hs:=hx.small;have aw:=hy.small;have Z:=hx.eu;have l2:=hy.eu;have v1:=bI x;have v2:=bI y;have S:=aO x;have T:=aO y;have t1:=iQ x;have t2:=iQ y;generalize hz:qK x y=z;have HZ:=Hd hz;clear hx hy hz;by_cases ak:n=m
 ·subst ak;generalize bC x=a at*;generalize bC y=b at*;have P:=Zw Z l2 v1 v2 S T;clear v1 v2 S T t1 t2 Z l2;refine sH func98 rfl ntmps98 ?_
  gi_wp2_with (refine Cl 142 (LM A n c _) ?_;rintro e I ⟨rfl,ai⟩;have ab:=Hd ai;clear ai)
  have E:=ab.out;have b1:Below w w I:=by rw[<-E];exact(((bw w w).alloc pc _).alloc oO _).alloc oS _
  have s1:I.heap.size=w.heap.size+3:=by rw[<-E];simp
  have c0:I.cell? ⟨w,0,none⟩=some (.slice B n d):=by rw[<-E];simp[go_sem]
  have c1:I.cell? ⟨w+1,0,none⟩=some (.int .i64 0):=by rw[<-E];simp[go_sem]
  have f1:I.frozen? ⟨w+1,0,none⟩=false:=by rw[<-E];simp[go_sem]
  have c2:I.cell? ⟨w+1+1,0,none⟩=some (.slice A n c):=by rw[<-E];simp[go_sem]
  clear E ab
  refine m_ (M:= [w.heap.size+1]) (w0:=I) rfl rfl trivial (eK func229 oF rfl)
   (zX (b1:=w.heap.size+1+1) (N:= []) (l:=a) c2 oO ((H.out.more (b:=w+1) oE).keep (a_ b1 _)) P.e) (cF _ _) ?hM ?hps
   (fun rest W=>((∃k:Nat,k<=n/\rest=oH a k/\a.drop k=b.drop k)/\Below w w W)/\W.cell? ⟨w,0,none⟩=some (.slice B n d)/\W.cell? ⟨w+1,0,none⟩=some (.int .i64 0)/\W.frozen? ⟨w+1,0,none⟩=false)
   (fun j W=>((j=.ret)/\Below w w W)/\W.cell? ⟨w+1,0,none⟩=some (.int .i64 z)/\W.frozen? ⟨w+1,0,none⟩=false)
   (fun _=>((kX _ _).and (kY pc oE)).and ((nO _ _ _).and (jV _ _ _)))
   (fun _=>((kX _ _).and (kY pc oE)).and (jV _ _ _))
   ⟨⟨⟨n,bh _,rfl,by rw[cA (by rw[P.a];exact bh _),cA (by rw[P.b];exact bh _)]⟩,b1⟩,c0,c1,f1⟩ ?round ?done ?stop
  case hM=>
   intro q U;have:q=w.heap.size+1:=by simpa using U
   omega
  case hps=>intro q U;exact D8 U
  case round=>
   rintro l s q rest W-hl ar ax av aq ⟨⟨⟨k,hk,O,K⟩,J⟩,hc0,hc1,hf1⟩;obtain⟨j,rfl⟩:∃j,k=j+1:=⟨k-1,by
    rcases eh k with rfl|h;·cases O
    omega⟩
   rw[lI]at O;injection O with U hr';subst U;have af:j<n:=oE;obtain⟨f,Y⟩:=dW a j (by rw[P.a];exact af);have ao:f<=1073741823:=g_ (P.e f (aR Y));have ad:aB a j=f:=by simp[aB,List.getD,Y]
   obtain⟨b2,o2,C,rfl,ac,ap,ag,-⟩:=(G.out.keep (a_ J [])).mG P.y af;rw[ad];have L:=h_ Y ag hr' K;clear Y ag hr' K ad;gi_wp2;refine⟨bn.refl _ _ _,fun v=>(v.cell? ⟨w,0,none⟩=some (.slice (some ⟨b2,o2,none⟩) n d)/\v.cell? ⟨b2,o2+j,none⟩=some (.int .i64 (C:Int))/\v.cell? ⟨w+1,0,none⟩=some (.int .i64 0)/\v.frozen? ⟨w+1,0,none⟩=false)/\Below w w v,?_,?_,?_⟩;·exact((nO _ _ _).and ((nO _ _ _).and (jV _ _ _))).and (kY pc oE)
   ·exact⟨⟨hc0,ac,hc1,hf1⟩,J⟩
   ·rintro v an Z5 ⟨⟨x0,x1,x2,x3⟩,hbW2⟩;have aa:=Hd Z5;clear an Z5 hc0 hc1 hf1 ac;by_cases h1:f<C
    ·have u:=Hd (pI (show x<y by rw[<-P.c,<-P.d];exact uJ P.e (P.a.trans P.b.symm) L.a L.b L.w h1));have al:decide ((f:Int)<(C:Int))=true:=by simpa using h1
     exact EG
    have al:decide ((f:Int)<(C:Int))=false:=by simpa using h1
    by_cases h2:C<f
    ·have u:=Hd (pJ (show y<x by rw[<-P.c,<-P.d];exact uJ P.y (P.b.trans P.a.symm) L.b L.a L.w.symm h2));have am:decide ((C:Int)<(f:Int))=true:=by simpa using h2
     exact EG
    have am:decide ((C:Int)<(f:Int))=false:=by simpa using h2
    have ae:f=C:=oE;have ah:a.drop j=b.drop j:=by rw[drop_cons L.a,drop_cons L.b,L.w,ae]
    have aj:=Hd ah;clear ah ae;gi_wp2;exact⟨bn.refl _ _ _,⟨⟨j,oE,L.c,aj.out⟩,hbW2⟩,x0,x2,x3⟩
  case done=>rintro D W hD ⟨⟨⟨k,hk,O,K⟩,J⟩,hc0,hc1,hf1⟩ hdef;obtain rfl:=Ib O;rw[fh,fh]at K;have u:=Hd (uM (show x=y by rw[<-P.c,<-P.d,K]));clear O K;gi_wp2;refine⟨oO,.inl ⟨_,_,rfl,jf (fA hdef),?_⟩⟩;refine⟨.int .i64 0,by simp[results,go_sem,qg (cZ hc1) (fA hdef)],jL ?_,nV (J.setCell (p:=⟨w+1,0,none⟩) oO _) oE pc⟩;exact u.out.symm.trans HZ.out
  case stop=>rintro D j W hD ⟨⟨rfl,J⟩,hc1,hf1⟩ hdef;gi_wp2;refine⟨oO,.inl ⟨_,_,rfl,jf (by assumption),?_⟩⟩;exact⟨.int .i64 z,by simp[results,go_sem,qg hc1 hdef],rfl,nV J oE pc⟩
 ·by_cases au:n<m;·have u:=Hd (pI (show x<y by rw[<-v1,<-v2];exact rF S t2 oE));exact ED
  have u:=Hd (pJ (show y<x by rw[<-v1,<-v2];exact rF T t1 oE));exact ED
theorem qL(n:Int):bits .and .i64 n 1073741823=n% (BB:Int):=by
 have e:(BitVec.ofInt 64 1073741823).toNat=2^30-1:=oR;have f:(BitVec.ofInt 64 n &&& BitVec.ofInt 64 1073741823).toNat=(n% ((2^64:Nat):Int)).toNat%2^30:=by rw[BitVec.toNat_and,BitVec.toNat_ofInt,e,Nat.and_two_pow_sub_one_eq_mod]
 show IntKind.i64.wrap ((BitVec.ofInt 64 n &&& BitVec.ofInt 64 1073741823).toNat:Nat)=n%1073741824;rw[f,bR];omega
theorem BBi:(1073741824:Int)=(BB:Int):=rfl
theorem agx(hk:ms.length=k)(hn:k<n)(m:Nat):(ms++List.replicate (n-k) 0).set k m=(ms++ [m])++List.replicate (n-(k+1)) 0:=by subst hk;rw[gS _ _ pc,ga];obtain⟨j,e⟩:∃j,n-ms.length=j+1:=⟨n-ms.length-1,oE⟩;rw[e,List.replicate_succ,eQ,show n-(ms.length+1)=j by omega];simp
theorem OO{x:Int}(hx:F[k]?=some x):aY (F.drop k) o=(((x+o)% (BB:Int)).toNat::(aY (F.drop (k+1)) ((x+o)/(BB:Int))).1,(aY (F.drop (k+1)) ((x+o)/(BB:Int))).2):=by
 have e:k<F.length:=(bj.1 hx).1;have:F.drop k=x::F.drop (k+1):=by rw[cT e];congr 1;exact(bj.1 hx).2
 rw[this,aY]
def rY(F:List Int)(k:Nat)(ms:List Nat)(o:Int):Prop:=aY F 0=(ms++(aY (F.drop k) o).1,(aY (F.drop k) o).2)/\ms.length=k/\Good ms
theorem rY.start(F:List Int):rY F 0 [] 0:=⟨rfl,rfl,tu⟩
theorem rY.step{F:List Int}{k:Nat}{ms:List Nat}{o x:Int}(h:rY F k ms o)(hx:F[k]?=some x):rY F (k+1) (ms++ [((x+o)% (BB:Int)).toNat]) ((x+o)/(BB:Int)):=by
 obtain⟨e,f,p⟩:=h;refine⟨?_,by simp[f],?_⟩;·rw[e,OO hx];simp
 have a:=lR (x+o) (show(BB:Int)≠0 by decide);have b:=Int.emod_lt_of_pos (x+o) Qv;exact zu p oE
theorem rY.done(h:rY F F.length ms o):(aY F 0).1=ms:=by obtain⟨e,-,-⟩:=h;rw[e,List.drop_length];simp[aY]
theorem pK{f:Nat->Int}{caps:Array Value}(n:Nat)(hn:n<=100000)(w:World)(eg:∀args w,(callFunc g args).run prog w=.ok (.enter g args) w)
 (hf:∀i,i<n-> -4611686018427387904<=f i/\f i<=4611686018427387904)
 (hs:∀W (i:Nat),i<n->Below w w W->Calls prog g (#[.int .i64 (i:Int)]++caps) W (fun e W'=>e=.returned (.int .i64 (f i))/\Below W W W')):
 Calls prog 257 #[.int .i64 (n:Int),.func (.func g) #[] caps] w fun e w'=>∃b k,e=.returned (.slice (some ⟨b,0,none⟩) k n)/\Row w' b (ints (aY ((List.range n).map f) 0).1)/\w.heap.size<=b/\k<=n/\(aY ((List.range n).map f) 0).1.take k=bC (val (aY ((List.range n).map f) 0).1)/\Below w w w':=by
 refine wid ?_;have HF:=Hd hf;have HS:=Hd hs;have T:=qR (t:=190) underlying190 n oE;obtain⟨F,D⟩:=aC ((List.range n).map f);have Y:F.length=n:=by rw[<-D];simp
 have Z:∀i,i<n->F[i]?=some (f i):=fun i hi=>by rw[<-D];simp[hi]
 have XR:=Hd Z;rw[D];clear hf hs D Z;obtain⟨W1,E⟩:=aC (w.alloc (.cells ((List.replicate n (0:Int)).map (Value.int .i64)).toArray 3));replace T:=T w;rw[E]at T;have r1:Row W1 w.heap.size (ints (List.replicate n 0)):=by rw[<-E,<-lH];exact Row.new n w
 have b1:Below w w W1:=by rw[<-E];exact bel
 have R1:=Hd r1;have B1:=Hd b1;clear r1 b1 E;refine ent func257 rfl ntmps257 ?_;gi_wp2;gi_loopw[6,13] (fun o i wr=>∃(k:Nat) (ms:List Nat) (h:Int),k<=n/\o=.int .i64 h/\i=.int .i64 k/\ -8589934592<=h/\h<=8589934592/\Hid (rY F k ms h)/\Hid (Row wr w.heap.size (ints (ms++List.replicate (n-k) 0)))/\Below w w wr) (fun _ i _=>n-(intOf i).toNat);case atStart=>exact⟨0, [],0,bO _,rfl,rfl,oE,oE,rY.start F,by simpa using R1,B1.out⟩
 case round=>
  obtain⟨k,ms,h,hk,rfl,rfl,an,ao,I,z,hb⟩:=hrel;by_cases H:k<n
  ·have am:=HF.out k H;generalize hfe:f k=x at*;have U:=Hd hfe
   have ac:(ints (ms++List.replicate (n-k) 0))[k]?=some 0:=by
    have:(ms++List.replicate (n-k) 0)[k]?=some 0:=by rw[cM (by rw[I.b];exact bh _),I.b,ga];obtain⟨j,hj⟩:∃j,n-k=j+1:=⟨n-k-1,oE⟩;rw[hj];rfl
    show((ms++List.replicate (n-k) 0).map _)[k]?=_;rw[cP,this];rfl
   have ah:=Hd ac;have k0:IntKind.i64.wrap (x+h)=x+h:=by rw[bR];omega
   have k1:=qL (x+h);clear ac hfe;gi_wp2_with (refine⟨bq,?_⟩;refine Cn (HS.out wr k H hb) ?_;rintro e w1 ⟨rfl,O⟩;have J:=z.out.go O z.out.lt;have e1:=J.cell ah.out;have e2:=J.free k;have ai:=Hd J;have ag:=Hd (hb.trans (O.mono hb.size));clear J O;rw[U.out])
   have ak:=lR (x+h) (show(BB:Int)≠0 by decide);have af:=I.out.step (XR.out k H);rw[U.out]at af;have ad:=ai.out.put k (((x+h)% (BB:Int)).toNat:Int);rw[ints_set,agx I.b H,iB ak]at ad;refine⟨⟨k+1,ms++ [((x+h)% (BB:Int)).toNat],(x+h)/1073741824,oE,rfl,by go_num,oE,oE,af,ad,ag.out.setCell (p:=⟨w,k,none⟩) pc _⟩,by simp[intOf];omega⟩
  ·have aj:k=n:=oE;subst aj;have P:=I.out;rw[<-Y]at P;have ab:=rY.done P;rw[ga,List.replicate_zero,ef,<-ab]at z;have G:=(ji F 0).1;have S:=(ji F 0).2;rw[Y]at S;obtain⟨L,K⟩:=aC (aY F 0).1;rw[K]at z G S;have HL:=Hd K;clear K;have ae:Sl Int wr [] (some ⟨w,0,none⟩) k k (ints L):=z.out.sl oO (by simp[ints,S]) oE (fU G);have HG:=Hd2 ae G;have al:=hb.size;clear ae G P ab I;gi_wp2_with (refine Cl 186 (jw _ _ _ L _ HG.a HG.u) ?_;rintro e w2 ⟨q,rfl,hq,ht,aa⟩;have C:=fB ht hq aa;clear ht hq aa)
   go_ret;rw[HL.out];exact⟨w,q,rfl,z.out.go C.v z.out.lt,bh _,C.b,C.a,hb.trans (C.v.mono al)⟩
theorem LP{x y:List Nat}(i:Nat)(w:World)(h1:w.cell? ⟨b1,0,none⟩=some (.slice A n c))(h2:w.cell? ⟨b2,0,none⟩=some (.slice B m d))
 (hx:Sl Int w [] A n c (ints x)) (hy:Sl Int w [] B m d (ints y)) (gx:Good x) (gy:Good y):
 CB 258 #[.int .i64 (i:Int),.pointer (some ⟨b1,0,none⟩),.pointer (some ⟨b2,0,none⟩)] (.int .i64 ((aB x i:Int)+(aB y i:Int))) w:=by
 refine wid ?_;have H:=Hd hx;have G:=Hd hy;have HG:=Hd2 gx gy;have v:=fF gx i;have z:=fF gy i;have v1:=ah h1;have v2:=ah h2;have D:IntKind.i64.wrap ((aB x i:Int)+(aB y i:Int))=(aB x i:Int)+(aB y i:Int):=by have:=g_ v;have:=g_ z;rw[bR];omega
 clear hx hy gx gy v z h1 h2;refine ent func258 rfl ntmps258 ?_;gi_wp2;refine ak [] [0,1,3,4,2,5,6,7] oF oF ?_;refine eH ?_;refine aH fun K f=>aA rfl rfl wy fun p h=>?_;gi_wp2;refine Cm (BI A n c x i _ (H.out.go (by exact bel)) HG.a) ?_;rintro e C ⟨rfl,rfl⟩;refine h _ _ ⟨?_,f _ _ ?_⟩;clear h p f K;·exact cF _ _
 refine lit ?_;refine eH ?_;refine aH fun K f=>aA rfl rfl wy fun p h=>?_;gi_wp2;refine Cm (BI B m d y i _ (G.out.go (by exact bel)) HG.u) ?_;rintro e C ⟨rfl,rfl⟩;refine h _ _ ⟨?_,f _ _ ?_⟩;clear h p f K;·exact cF _ _
 refine lit ?_;refine eH ?_;refine aK ?_;refine lit ?_;gi_wp2;go_ret;exact⟨rfl,by exact bel⟩
theorem V_{x y:List Nat}(i:Nat)(hi:i<n)(w:World)(h1:w.cell? ⟨b1,0,none⟩=some (.slice A n c))(h2:w.cell? ⟨b2,0,none⟩=some (.slice B m d))
 (hx:Sl Int w [] A n c (ints x)) (hy:Sl Int w [] B m d (ints y)) (gx:Good x) (gy:Good y):
 CB 260 #[.int .i64 (i:Int),.pointer (some ⟨b1,0,none⟩),.pointer (some ⟨b2,0,none⟩)] (.int .i64 ((aB x i:Int)-(aB y i:Int))) w:=by
 refine wid ?_;have hs:=hx.small;obtain⟨b,o,f,rfl,I,D,-,u⟩:=hx.mG gx hi;have z:=Hd u;have G:=Hd hy;have HG:=Hd gy;have v:=fF gy i;have v1:=ah h1;have v2:=ah h2;have v3:=ah I;have E:IntKind.i64.wrap ((f:Int)-(aB y i:Int))=(f:Int)-(aB y i:Int):=by have:=g_ v;rw[bR];omega
 rw[z.out];clear hx hy gx gy v h1 h2 I u;refine ent func260 rfl ntmps260 ?_;gi_wp2;refine ak [] [0,1,2,3,4,5,6,7,8] oF oF ?_;refine eH ?_;refine aH fun K h=>aA rfl rfl wy fun C p=>?_;gi_wp2;refine Cm (BI B m d y i _ (G.out.go (by exact bel)) HG.out) ?_;rintro e H ⟨rfl,rfl⟩;refine p _ _ ⟨?_,h _ _ ?_⟩;clear p C h K;·exact cF _ _
 refine lit ?_;refine eH ?_;refine aK ?_;refine lit ?_;gi_wp2;go_ret;exact⟨rfl,by exact bel⟩
theorem OQ{x:List Nat}(i:Nat)(w:World)(h1:w.cell? ⟨b1,0,none⟩=some (.slice A n c))(h2:w.cell? ⟨b2,0,none⟩=some (.int .i64 (s:Int)))(hs:s<=29)
 (hx:Sl Int w [] A n c (ints x)) (gx:Good x):
 CB 281 #[.int .i64 (i:Int),.pointer (some ⟨b1,0,none⟩),.pointer (some ⟨b2,0,none⟩)] (.int .i64 ((aB x i:Int)*((2^s:Nat):Int))) w:=by
 refine wid ?_;have H:=Hd hx;have HG:=Hd gx;have D:=g_ (fF gx i);have p:IntKind.i64.wrap ((aB x i:Int)*2^s)=(aB x i:Int)*((2^s:Nat):Int):=by have z:2^s<=2^29:=iu oR hs;have E:aB x i*2^s<=1073741823*2^29:=gp D z;have C:(aB x i:Int)*2^s=((aB x i*2^s:Nat):Int):=oO;rw[C,bR,eJ];rw[<-eJ];omega
 have u:=Hd p;have v1:=ah h1;have v2:=ah h2;clear hx gx h1 h2 p;refine ent func281 rfl ntmps281 ?_;gi_wp2;refine ak [] [0,1,3,2,4,5] oF oF ?_;refine eH ?_;refine aH fun K f=>aA rfl rfl wy fun v h=>?_;gi_wp2;refine Cm (BI A n c x i _ (H.out.go (by exact bel)) HG.out) ?_;rintro e G ⟨rfl,rfl⟩;refine h _ _ ⟨?_,f _ _ ?_⟩;clear h v f K;·exact cF _ _
 refine lit ?_;refine eH ?_;refine aK ?_;refine lit ?_;gi_wp2;go_ret;exact⟨jL u.out,by exact bel⟩
theorem Row.dr{w':World}{b v:Nat}{L:List Nat}(h:Row w' b (ints L))(hb:w.heap.size<=b)(hM:b_ M w)(hk:k<=n)(hl:L.length=n)(hn:n<=1000000)(hg:Good L)(ht:L.take k=bC v)(hB:Below w w w'):DR w M v (.returned (.slice (some ⟨b,0,none⟩) k n)) w':=by
 refine⟨_,k,n,rfl,?_,hB⟩;have hs:=h.sl (M:=M) (fun e=>by have:=hM _ e;omega) (n:=n) (by simp[ints,hl]) hn (fU hg);have:=hs.nY hk
 rwa [eG,ht]at this
theorem uN(n:Nat)(f:Nat->Int):(aY ((List.range n).map f) 0).1.length=n/\Good (aY ((List.range n).map f) 0).1:=by obtain⟨e,h⟩:=ji ((List.range n).map f) 0;exact⟨by rw[h];simp,e⟩
theorem YE(hM:b_ M w)(hx:Sl Int w M A n c (ints (bC x)))(hy:Sl Int w M B m d (ints (bC y)))(hn:n<=5000)(hm:m<=5000)(hnm:n<m):
 Calls prog 224 #[.slice A n c,.slice B m d] w (DR w M (x+y)):=by
 refine wid ?_;have H:=Hd (hx.less (M':= []) oO);have G:=Hd (hy.less (M':= []) oO);have P:=hx.eu;have T:=hy.eu;have aa:∀(fn:Fn) (first cap:Array Value) (w:World),(Instr.makeFunc fn first cap).run prog w=.ok (.func fn first cap) w:=fun _ _ _ _=>rfl;have I:∀i,i<m+1-> -4611686018427387904<=(aB (bC x) i:Int)+(aB (bC y) i:Int)/\(aB (bC x) i:Int)+(aB (bC y) i:Int)<=4611686018427387904:=fun i _=>by have:=g_ (fF (aO x) i);have:=g_ (fF (aO y) i);omega
 have Y:=Hd I;have u:=DL (aO x) (aO y);rw[P,T,show max n m=m by omega]at u;have Z:=Hd u;clear hx hy I u P T;refine ent func224 rfl ntmps224 ?_;gi_wp2_with (refine⟨bq,?_⟩;gi_at_call 257;rw[show(m:Int)+1=((m+1:Nat):Int)from by omega];refine Cn (pK (f:=fun i=>(aB (bC x) i:Int)+(aB (bC y) i:Int)) (g:=258) (m+1) oE _ (eK func258 oF rfl) Y.out (fun W i hi hb=>?_)) ?_)
 ·exact Bl
 ·rintro e w1 ⟨b,k,rfl,K,hb,J,S,C⟩;have h:Below w w w1:=(((bw w w).alloc pc _).alloc oO _).trans (C.mono oS);have E:w.heap.size<=b:=by simp at hb;omega
  obtain⟨z,v⟩:=uN (m+1) (fun i=>(aB (bC x) i:Int)+(aB (bC y) i:Int));have O:bC (val (aY ((List.range (m+1)).map fun i=>(aB (bC x) i:Int)+(aB (bC y) i:Int)) 0).1)=bC (x+y):=by have:=Z.out;rw[bI,bI]at this;exact this
  exact O_
theorem YF(hM:b_ M w)(hx:Sl Int w M A n c (ints (bC x)))(hy:Sl Int w M B m d (ints (bC y)))(hn:n<=5000)(hm:m<=5000)(hnm:¬n<m):
 Calls prog 224 #[.slice A n c,.slice B m d] w (DR w M (x+y)):=by
 refine wid ?_;have H:=Hd (hx.less (M':= []) oO);have G:=Hd (hy.less (M':= []) oO);have P:=hx.eu;have T:=hy.eu;have aa:∀(fn:Fn) (first cap:Array Value) (w:World),(Instr.makeFunc fn first cap).run prog w=.ok (.func fn first cap) w:=fun _ _ _ _=>rfl;have I:∀i,i<n+1-> -4611686018427387904<=(aB (bC x) i:Int)+(aB (bC y) i:Int)/\(aB (bC x) i:Int)+(aB (bC y) i:Int)<=4611686018427387904:=fun i _=>by have:=g_ (fF (aO x) i);have:=g_ (fF (aO y) i);omega
 have Y:=Hd I;have u:=DL (aO x) (aO y);rw[P,T,show max n m=n by omega]at u;have Z:=Hd u;clear hx hy I u P T;refine ent func224 rfl ntmps224 ?_;gi_wp2_with (refine⟨bq,?_⟩;gi_at_call 257;rw[show(n:Int)+1=((n+1:Nat):Int)from by omega];refine Cn (pK (f:=fun i=>(aB (bC x) i:Int)+(aB (bC y) i:Int)) (g:=258) (n+1) oE _ (eK func258 oF rfl) Y.out (fun W i hi hb=>?_)) ?_)
 ·exact Bl
 ·rintro e w1 ⟨b,k,rfl,K,hb,J,S,C⟩;have h:Below w w w1:=(((bw w w).alloc pc _).alloc oO _).trans (C.mono oS);have E:w.heap.size<=b:=by simp at hb;omega
  obtain⟨z,v⟩:=uN (n+1) (fun i=>(aB (bC x) i:Int)+(aB (bC y) i:Int));have O:bC (val (aY ((List.range (n+1)).map fun i=>(aB (bC x) i:Int)+(aB (bC y) i:Int)) 0).1)=bC (x+y):=by have:=Z.out;rw[bI,bI]at this;exact this
  exact O_
theorem LQ(hM:b_ M w)(hx:Sl Int w M A n c (ints (bC x)))(hy:Sl Int w M B m d (ints (bC y)))(hn:n<=5000)(hm:m<=5000):
 Calls prog 224 #[.slice A n c,.slice B m d] w (DR w M (x+y)):=by
 by_cases h:n<m;·exact YE hM hx hy hn hm h
 ·exact YF hM hx hy hn hm h
theorem LW(hM:b_ M w)(hx:Sl Int w M A n c (ints (bC x)))(hy:Sl Int w M B m d (ints (bC y)))(hn:n<=5000)(hyx:y<=x):
 Calls prog 225 #[.slice A n c,.slice B m d] w (DR w M (x-y)):=by
 refine wid ?_;have H:=Hd (hx.less (M':= []) oO);have G:=Hd (hy.less (M':= []) oO);have P:=hx.eu;have l2:=hy.eu;have aa:∀(fn:Fn) (first cap:Array Value) (w:World),(Instr.makeFunc fn first cap).run prog w=.ok (.func fn first cap) w:=fun _ _ _ _=>rfl;have I:∀i,i<n-> -4611686018427387904<=(aB (bC x) i:Int)-(aB (bC y) i:Int)/\(aB (bC x) i:Int)-(aB (bC y) i:Int)<=4611686018427387904:=fun i _=>by have:=g_ (fF (aO x) i);have:=g_ (fF (aO y) i);omega
 have U:=Hd I;have u:=Oz (aO x) (show val (bC y)<=val (bC x) by rw[bI,bI];exact hyx) (kR hyx);rw[P]at u;have Y:=Hd u;clear hx hy I u P l2;refine ent func225 rfl ntmps225 ?_;gi_wp2_with (refine Cl 257 (pK (f:=fun i=>(aB (bC x) i:Int)-(aB (bC y) i:Int)) (g:=260) n oE _ (eK func260 oF rfl) U.out (fun W i Z hb=>?_)) ?_)
 ·have h:Below w w W:=(((bw w w).alloc pc _).alloc oO _).trans (hb.mono oS);refine V_ (A:=A) (B:=B) (n:=n) (c:=c) (m:=m) (d:=d) i Z W ?_ ?_ (H.out.keep (a_ h [])) (G.out.keep (a_ h [])) (aO x) (aO y);·exact(hb.cell (p:=⟨w,0,none⟩) oS).trans oX
  exact(hb.cell (p:=⟨w+1,0,none⟩) oO).trans oX
 ·rintro e w1 ⟨b,k,rfl,K,hb,J,S,C⟩;have h:Below w w w1:=(((bw w w).alloc pc _).alloc oO _).trans (C.mono oS);have E:w.heap.size<=b:=by simp at hb;omega
  obtain⟨z,v⟩:=uN n (fun i=>(aB (bC x) i:Int)-(aB (bC y) i:Int));have O:bC (val (aY ((List.range n).map fun i=>(aB (bC x) i:Int)-(aB (bC y) i:Int)) 0).1)=bC (x-y):=by have:=Y.out;rw[bI,bI]at this;exact this
  rw[O]at S;have D:=K.dr E hM J z oE v S h;have T:=Hd D;clear K hb J S C h E z v O D;gi_wp2;go_ret;exact T.out
def ahP(w:World)(n v:Nat)(e:Ending)(w':World):Prop:=∃b k L,e=.returned (.slice (some ⟨b,0,none⟩) k n)/\Row w' b (ints L)/\w.heap.size<=b/\k<=n/\L.length=n/\Good L/\L.take k=bC v/\Below w w w'
theorem OU(hs:s<=29):2^s<=BB:=cD (iu oR hs) oR
theorem Ic(hx:Sl Int w M A n c (ints (bC x)))(hn:n<=5000)(hs:s<=29):
 Calls prog 262 #[.slice A n c,.int .i64 (s:Int)] w (ahP w (n+1) (x*2^s)):=by
 refine wid ?_;have H:=Hd (hx.less (M':= []) oO);have O:=hx.eu;have aa:∀(fn:Fn) (first cap:Array Value) (w:World),(Instr.makeFunc fn first cap).run prog w=.ok (.func fn first cap) w:=fun _ _ _ _=>rfl;have G:∀i,i<n+1-> -4611686018427387904<=(aB (bC x) i:Int)*((2^s:Nat):Int)/\(aB (bC x) i:Int)*((2^s:Nat):Int)<=4611686018427387904:=fun i _=>by have q:=g_ (fF (aO x) i);have Z:2^s<=2^29:=iu oR hs;have h4:aB (bC x) i*2^s<=1073741823*2^29:=gp q Z;rw[<-eJ];omega
 have U:=Hd G;have u:=Jq (aO x) (OU hs);rw[O]at u;have Y:=Hd u;clear hx G u O;refine ent func262 rfl ntmps262 ?_;gi_wp2_with (refine⟨bq,?_⟩;gi_at_call 257;rw[show(n:Int)+1=((n+1:Nat):Int)from by omega];refine Cn (pK (f:=fun i=>(aB (bC x) i:Int)*((2^s:Nat):Int)) (g:=281) (n+1) oE _ (eK func281 oF rfl) U.out (fun W i hi hb=>?_)) ?_)
 ·have h:Below w w W:=(((bw w w).alloc pc _).alloc oO _).trans (hb.mono oS);refine OQ (A:=A) (n:=n) (c:=c) i W ?_ ?_ hs (H.out.keep (a_ h [])) (aO x);·exact(hb.cell (p:=⟨w,0,none⟩) oS).trans oX
  exact(hb.cell (p:=⟨w+1,0,none⟩) oO).trans oX
 ·rintro e P ⟨b,k,rfl,J,hb,I,S,C⟩;have h:Below w w P:=(((bw w w).alloc pc _).alloc oO _).trans (C.mono oS);have E:w.heap.size<=b:=by simp at hb;omega
  obtain⟨z,v⟩:=uN (n+1) (fun i=>(aB (bC x) i:Int)*((2^s:Nat):Int));have K:bC (val (aY ((List.range (n+1)).map fun i=>(aB (bC x) i:Int)*((2^s:Nat):Int)) 0).1)=bC (x*2^s):=by have:=Y.out;rw[bI]at this;exact this
  rw[K]at S;have D:ahP w (n+1) (x*2^s) (.returned (.slice (some ⟨b,0,none⟩) k (n+1))) P:=⟨b,k,_,rfl,J,E,I,z,v,S,h⟩;have T:=Hd D;clear J hb I S C h E z v K D;gi_wp2;go_ret;exact T.out
end
theorem Ju:∀{l:List Nat}{j x:Nat}(_:l[j]?=some x) (d:Nat),val (l.set j d)+BB^j*x=val l+BB^j*d
 | [],j,x,h,d=>by simp at h
 |y::r,0,x,h,d=>by simp at h;subst h;simp only[eQ,val,Nat.pow_zero,fi];omega
 |y::r,j+1,x,h,d=>by
  have ih:=Ju (l:=r) (j:=j) (x:=x) (by simpa using h) d;simp only[fl,val];have e:BB*(val (r.set j d)+BB^j*x)=BB*(val r+BB^j*d):=by rw[ih]
  rw[gG,gG,<-gw,<-gw,js BB (BB^j),<-lj,show j.succ=j+1 from rfl]at e;omega
theorem D9(h:Good l)(j:Nat)(hd:d<BB):Good (l.set j d):=by
 intro x hx;rcases gN hx with hx|rfl;·exact h x hx
 exact hd
theorem l7(h:l[k]?=some x):val (l.take (k+1))=val (l.take k)+BB^k*x:=by have e:k<l.length:=(bj.1 h).1;rw[eo,h,ja,val_append,cI,gd oE];simp[val]
structure yB(a b:List Nat)(i:Nat)(R:List Nat):Prop where
 eq:val R=val (a.take i)*val b
 good:Good R
 len:R.length=a.length+b.length
 top:∀j,i+b.length<=j->j<R.length->R[j]?=some 0
structure Fz(a b:List Nat)(i x k over:Nat)(R:List Nat):Prop where
 eq:val R+BB^(i+k)*over=val (a.take i)*val b+BB^i*(x*val (b.take k))
 good:Good R
 len:R.length=a.length+b.length
 top:∀j,i+b.length<=j->j<R.length->R[j]?=some 0
 lt:over<BB
theorem yB.start(a b:List Nat):yB a b 0 (List.replicate (a.length+b.length) 0):=by
 refine⟨?_,?_,oO,?_⟩;·rw[zq];simp[val]
 ·intro d f;rw[ld f];exact eX
 intro j _ e;rw[List.length_replicate]at e;simp[e]
theorem yB.row(h:yB a b i R)(x:Nat):Fz a b i x 0 0 R:=⟨by rw[h.eq];simp[val],h.good,h.len,h.top,eX⟩
theorem yB.skip(h:yB a b i R)(ha:a[i]?=some 0):yB a b (i+1) R:=⟨by rw[h.eq,l7 ha];simp,h.good,h.len,fun j hj hl=>h.top j oE hl⟩
theorem Fz.small(h:Fz a b i x k over R)(hx:x<BB)(hr:R[i+k]?=some r)(hy:b[k]?=some y)(hb:Good b):r+x*y+over<=1152921504606846975/\r<=1073741823/\y<=1073741823/\over<=1073741823/\x*y<=1152921502459363329/\(r+x*y+over)/BB<BB:=by have f:r<=1073741823:=l_ (h.good r (aR hr));have e:y<=1073741823:=l_ (hb y (aR hy));have p:over<=1073741823:=l_ h.lt;have D:x<=1073741823:=l_ hx;have K:x*y<=1073741823*1073741823:=gp D e;refine⟨oE,f,e,p,oE,?_⟩;refine(j0 eX).2 ?_;show _<1073741824*1073741824;omega
theorem Fz.step{a b R:List Nat}{i x k over r y:Nat}(h:Fz a b i x k over R)(hx:x<BB)(hr:R[i+k]?=some r)(hy:b[k]?=some y)(hb:Good b):
 Fz a b i x (k+1) ((r+x*y+over)/BB) (R.set (i+k) ((r+x*y+over)%BB)):=by
 have v:=(h.small hx hr hy hb).2.2.2.2.2;have D:k<b.length:=(bj.1 hy).1;refine⟨?_,D9 h.good _ (jN _ eX),by rw[fI];exact h.len,fun j p u=>?_,v⟩
 ·have G:=Ju hr ((r+x*y+over)%BB);have z:=h.eq;have e:=Nat.mod_add_div (r+x*y+over) BB;rw[l7 hy];rw[<-mz i k 1,lj];generalize (r+x*y+over)%BB=m at*;generalize (r+x*y+over)/BB=q at*
  have f:BB^(i+k)*(m+BB*q)=BB^(i+k)*(r+x*y+over):=by rw[e]
  rw[gG,<-gw,gG,gG]at f;have C:BB^i*(x*(val (b.take k)+BB^k*y))=BB^i*(x*val (b.take k))+BB^(i+k)*(x*y):=by rw[gG,gG,Nat.pow_add,gw];congr 2;rw[<-gw,<-gw,js x]
  omega
 ·rw[fz oE];exact h.top j p (by simpa using u)
theorem Fz.done(h:Fz a b i x b.length over R)(ha:a[i]?=some x):yB a b (i+1) (R.set (i+b.length) over):=by
 have v:i<a.length:=(bj.1 ha).1;have f:R[i+b.length]?=some 0:=h.top _ pc (by rw[h.len];omega);refine⟨?_,D9 h.good _ h.lt,by rw[fI];exact h.len,fun j z p=>?_⟩;·have G:=Ju f over;have e:=h.eq;rw[List.take_length]at e;rw[l7 ha,fX];have u:BB^i*(x*val b)=BB^i*x*val b:=(gw ..).symm;omega
 rw[fz oE];exact h.top j oE (by simpa using p)
theorem yB.done(h:yB a b a.length R):val R=val a*val b:=by rw[h.eq,List.take_length]
section
open Go.RowKit Go.Shelf
attribute [local go_sem] cK
theorem jK(h:l[k]?=some d):(ints l)[k]?=some (d:Int):=by show(l.map _)[k]?=_;rw[cP,h];rfl
theorem Wh(hM:b_ M w)(hx:Sl Int w M A n c (ints (bC x)))(hy:Sl Int w M B m d (ints (bC y)))(hn:n<=5000)(hm:m<=5000):
 Calls prog 141 #[.slice A n c,.slice B m d] w (DR w M (x*y)):=by
 have H:=Hd (hx.less (M':= []) oO);have G:=Hd (hy.less (M':= []) oO);have HM:=Hd hM;have l1:=hx.eu;have l2:=hy.eu;have g1:=aO x;have g2:=aO y;have af:val (bC x)*val (bC y)=x*y:=by rw[bI,bI]
 have ac:=qR (t:=190) underlying190 (n+m) oE;obtain⟨W1,W⟩:=aC (w.alloc (.cells ((List.replicate (n+m) (0:Int)).map (Value.int .i64)).toArray 3));replace ac:=ac w;rw[W,show((n+m:Nat):Int)=(n:Int)+(m:Int)from by omega]at ac;have r1:Row W1 w.heap.size (ints (List.replicate (n+m) 0)):=by rw[<-W,<-lH];exact Row.new _ w
 have b1:Below w w W1:=by rw[<-W];exact bel
 have st:=yB.start (bC x) (bC y);rw[l1,l2]at st;generalize hax:bC x=a at*
 generalize hay:bC y=b at*
 have P:=Hd (And.intro l1 (And.intro l2 (And.intro g1 (And.intro g2 (And.intro af (And.intro st (And.intro r1 b1)))))));clear hx hy hM l1 l2 g1 g2 af st r1 b1 W hax hay;go_enter func141,ntmps141;go_wp2;go_step3;go_wp2;go_step3;go_wp2;go_loopw[20] (fun i wr=>∃(k:Nat) (R:List Nat),k<=n/\i=.int .i64 k/\Hid (yB a b k R)/\Hid (Row wr w.heap.size (ints R))/\Below w w wr) (fun i _=>n-(intOf i).toNat);case atStart=>exact YT
 case round=>
  obtain⟨i,R,hi,rfl,hI,hR,hb⟩:=hrel;by_cases ar:i<n
  ·obtain⟨b1,o1,h,rfl,ax,av,ae,-⟩:=(H.out.keep (a_ hb [])).mG P.c ar;have L:=Hd ae;clear ae;by_cases h0:h=0
   ·subst h0;go_wp2;go_roundw;case rel=>exact⟨i+1,R,oE,by go_num,hI.out.skip L.out,hR.out,hb⟩
    case measure=>simp[intOf];omega
   have aw:((h:Int)==0)=false:=by simpa using h0
   have aj:h<BB:=Hy av;go_wp2;go_loopw[8,29] (fun o q ak=>∃(k over:Nat) (D:List Nat),k<=m/\o=.int .i64 over/\q=.int .i64 k/\Hid (Fz a b i h k over D)/\Hid (Row ak w.heap.size (ints D))/\Below w w ak) (fun _ q _=>m-(intOf q).toNat);case atStart=>exact⟨0,0,R,bO _,rfl,rfl,hI.out.row h,hR.out,hb⟩
   case round=>
    obtain⟨k,over,D,hk,rfl,rfl,U,E,aa⟩:=hrel;by_cases aq:k<m
    ·obtain⟨b2,o2,z,rfl,ay,az,ab,-⟩:=(G.out.keep (a_ aa [])).mG P.d aq;have am:D.length=n+m:=by rw[U.out.len,P.a,P.b]
     obtain⟨r,Y⟩:=dW D (i+k) oE;obtain⟨s1,s2,s3,s4,s5,s6⟩:=U.out.small aj Y ab P.d;have an:wr.cell? ⟨w,i+k,none⟩=some (.int .i64 (r:Int)):=E.out.cell (jK Y);have ao:wr.frozen? ⟨w,i+k,none⟩=false:=E.out.free _;have ai:=U.out.step aj Y ab P.d;have C:=E.out.put (i+k) (((r+h*z+over)%BB:Nat):Int);rw[ints_set]at C;have J:=Hd2 ai C;have e0:((h:Int)*(z:Int))=((h*z:Nat):Int):=(eJ ..).symm;have k0:IntKind.i64.wrap ((i:Int)+(k:Int))=((i+k:Nat):Int):=by rw[bR];omega
     have k1:IntKind.i64.wrap ((h:Int)*(z:Int))=((h*z:Nat):Int):=by rw[e0,bR];omega
     have k2:IntKind.i64.wrap ((r:Int)+((h*z:Nat):Int))=((r+h*z:Nat):Int):=by rw[bR];omega
     have k3:IntKind.i64.wrap (((r+h*z:Nat):Int)+(over:Int))=((r+h*z+over:Nat):Int):=by rw[bR];omega
     have Z:(r:Int)+(h:Int)*(z:Int)+(over:Int)=((r+h*z+over:Nat):Int):=oO;have q1:((r:Int)+(h:Int)*(z:Int)+(over:Int))/1073741824=(((r+h*z+over)/BB:Nat):Int):=by rw[Z,BBi];exact(Int.natCast_ediv _ _).symm
     have q2:bits .and .i64 ((r:Int)+(h:Int)*(z:Int)+(over:Int)) 1073741823=(((r+h*z+over)%BB:Nat):Int):=by rw[Z,qL];exact(Int.natCast_emod _ _).symm
     have Q:=Hd2 q1 q2;clear ai C Y ab e0 am Z q1 q2;go_wp2;rw[Q.a,Q.u];exact⟨⟨k+1,_,_,oE,rfl,by go_num,J.a,J.u,aa.setCell (p:=⟨w,i+k,none⟩) pc _⟩,by simp[intOf];omega⟩
    ·have al:k=m:=oE;subst al;have K:=U.out;have hlo:=g_ K.lt;have hz:D[i+k]?=some 0:=K.top _ (by rw[P.b];exact bh _) (by rw[K.len,P.a,P.b];omega);have I:=K;rw[<-P.b]at I;have I:=I.done L.out;rw[P.b]at I;have an:wr.cell? ⟨w,i+k,none⟩=some (.int .i64 0):=E.out.cell (jK hz);have ao:wr.frozen? ⟨w,i+k,none⟩=false:=E.out.free _;have C:=E.out.put (i+k) (over:Int);rw[ints_set]at C;have J:=Hd2 I C;have k0:IntKind.i64.wrap ((i:Int)+(k:Int))=((i+k:Nat):Int):=by rw[bR];omega
     clear I C K hz;go_wp2;exact⟨⟨i+1,_,oE,by go_num,J.a,J.u,aa.setCell (p:=⟨w,i+k,none⟩) pc _⟩,by simp[intOf];omega⟩
  ·have ap:i=n:=oE;subst ap;have O:=hI.out;rw[<-P.a]at O;have hv:=O.done;have hg:=O.good;have hl:=O.len;rw[P.e]at hv;rw[P.a,P.b]at hl;have Nw:w.heap.size∉M:=fun e=>by have:=HM.out _ e;omega
   have ah:=hR.out.sl Nw (n:=i+m) (by rw[jm];exact hl) oE (fU hg);have S:=fB ah hg hv;have au:=hb.size;clear O hv hg hl Nw ah;go_wp2_with (go_at_call 186;refine(jw _ _ _ R _ S.a S.b).mono ?_;rintro e w2 ⟨q,rfl,hq,ht,ad⟩;have T:=fB ht hq ad;clear ht hq ad);rw[Exit.noGoto_ret];go_ret;have ag:=(S.a.go T.v).nY T.b;rw[eG,T.a,S.v]at ag;exact⟨_,q,i+m,rfl,ag,hb.trans (T.v.mono au)⟩
end
def RR(lo mid:List Nat)(t:Int)(rest:List Nat):List Int:=ints lo++(ints mid++(t::ints rest))
theorem pO(l:List Nat):(ints l).length=l.length:=by simp[ints]
theorem wE(hi:lo.length=i)(h:mid[j]?=some d):(RR lo mid t rest)[i+j]?=some (d:Int):=by have e:j<mid.length:=(bj.1 h).1;unfold RR;rw[cM (by rw[pO];omega),pO,show i+j-lo.length=j by omega,di (by rw[pO];exact e)];simp[ints,h]
theorem zA(hi:lo.length=i)(hk:mid.length=k):(RR lo mid t rest)[i+k]?=some t:=by unfold RR;rw[cM (by rw[pO];omega),pO,cM (by rw[pO];omega),pO,show i+k-lo.length-mid.length=0 by omega];rfl
theorem rH(hi:lo.length=i)(hj:j<mid.length)(d:Nat):(RR lo mid t rest).set (i+j) (d:Int)=RR lo (mid.set j d) t rest:=by unfold RR;rw[gS _ _ (by rw[pO];omega),pO,show i+j-lo.length=j by omega,List.set_append_left _ _ (by rw[pO];exact hj)];simp[ints,oe]
theorem lJ(hi:lo.length=i)(hk:mid.length=k)(z:Int):(RR lo mid t rest).set (i+k) z=RR lo mid z rest:=by unfold RR;rw[gS _ _ (by rw[pO];omega),pO,gS _ _ (by rw[pO];omega),pO,show i+k-lo.length-mid.length=0 by omega];rfl
theorem Wi(lo mid rest:List Nat)(t:Nat):RR lo mid (t:Int) rest=ints (lo++(mid++t::rest)):=by simp[RR,ints]
theorem BK(lo mid rest:List Nat):RR lo mid 0 rest=ints (lo++(mid++0::rest)):=Wi lo mid rest 0
structure LI(X V N k L j:Nat)(lo rs rest Q:List Nat):Prop where
 eq:X=val lo+BB^j*(val rs+V*val (Q.drop j))
 lol:lo.length=j
 rsl:rs.length=k
 lt:val rs<V
 glo:Good lo
 grs:Good rs
 gq:Good Q
 ql:Q.length=L
 jl:j<=L
 zs:∀q,j+k+q<N->rest[q]?=some 0
 gz:Good rest
theorem LI.window{N:Nat}(h:LI X V N k L (j+1) lo rs rest Q):∃(lo':List Nat) (d:Nat) (ws:List Nat) (t:Nat),lo=lo'++ [d]/\lo'.length=j/\d::rs=ws++ [t]/\ws.length=k/\Good ws/\t<BB/\Good lo'/\d<BB:=by
 have p:=h.lol;have f:lo≠ []:=fun e=>by rw[e]at p;simp at p
 have G:=(List.dropLast_concat_getLast f).symm;have u:lo.getLast f::rs≠ []:=oO;have v:=(List.dropLast_concat_getLast u).symm;have g:Good (lo.getLast f::rs):=nT (h.glo _ (List.getLast_mem f)) h.grs;refine⟨lo.dropLast,lo.getLast f,(lo.getLast f::rs).dropLast,(lo.getLast f::rs).getLast u,G,by simp[p],v,by simp[h.rsl],?_,g _ (List.getLast_mem u),?_,h.glo _ (List.getLast_mem f)⟩;·intro x hx;exact g x ((List.dropLast_sublist _).subset hx)
 intro x hx;exact h.glo x ((List.dropLast_sublist _).subset hx)
theorem LI.shape{lo':List Nat}{t:Nat}(h1:lo=lo'++ [d])(h2:d::rs=ws++ [t]):lo++(rs++rest)=lo'++(ws++t::rest):=by
 have:lo'++((d::rs)++rest)=lo'++((ws++ [t])++rest):=by rw[h2]
 rw[h1];simpa using this
theorem LI.less{N:Nat}(h:LI X V N k L (j+1) lo rs rest Q)(hd:d<BB):val (d::rs)<BB*V:=agr (W:=val (d::rs)) (R:=val rs) rfl h.lt hd
theorem LI.step{X V N k L j:Nat}{lo rs rest Q lo' r':List Nat}{d:Nat}(h:LI X V N k L (j+1) lo rs rest Q)(h1:lo=lo'++ [d])(hl:lo'.length=j)(hr:val r'=val (d::rs)%V)(hrl:r'.length=k)(hrg:Good r')(hV:0<V)(hd:d<BB):
 LI X V N k L j lo' r' (0::rest) (Q.set j (val (d::rs)/V))/\val (d::rs)/V<BB:=by
 have E:=h.less hd;have f:val (d::rs)/V<BB:=(j0 hV).2 E;refine⟨⟨?_,hl,hrl,by rw[hr];exact jN _ hV,?_,hrg,D9 h.gq _ f,by rw[fI];exact h.ql,by have:=h.jl;omega,?_,nT eX h.gz⟩,f⟩
 ·have e:=h.eq;have D:j<Q.length:=by rw[h.ql];have:=h.jl;omega
  rw[drop_set D,val,hr];rw[h1,val_append,hl]at e;have u:=Nat.mod_add_div (val (d::rs)) V;generalize hW:val (d::rs)=W at*
  have C:W=d+BB*val rs:=by rw[<-hW];rfl
  generalize W%V=m at*;generalize W/V=q at*;generalize val (Q.drop (j+1))=Y at*;rw[e];simp only[val,lP,ed];rw[lj];generalize BB^j=p at*
  have v:p*BB*(val rs+V*Y)=p*(BB*val rs)+p*(BB*(V*Y)):=by rw[gw,gG,gG]
  have z:p*(m+V*(q+BB*Y))=p*(m+V*q)+p*(BB*(V*Y)):=by rw[gG V,<-mz,gG p];congr 2;rw[<-gw,<-gw,js V]
  rw[v,z,u,C,gG];omega
 ·intro x hx;exact h.glo x (by rw[h1];exact df _ hx)
 ·intro q G
  match q with
  |0=>rfl
  |q+1=>simpa using h.zs q oE
theorem LI.start{T:List Nat}(hx:(bC x).length=n)(hy:(bC y).length=k)(hkn:k<=n)(hk:0<k)(hT:val (T.take (n+1))=x*2^s)(hg:Good T)(hl:n+1<=T.length):
 LI (x*2^s) (y*2^s) (n+1) k (n-k+1) (n-k+1) (T.take (n-k+1)) ((T.drop (n-k+1)).take k) (T.drop (n+1)) (List.replicate (n-k+1) 0):=by
 have G:T.take (n+1)=T.take (n-k+1)++(T.drop (n-k+1)).take k:=by exact XB
 have hlo:(T.take (n-k+1)).length=n-k+1:=by rw[cI];omega
 have f:=hT;rw[G,val_append,hlo]at f;have p:x<BB^n:=(lY x n).2 oE;have u:BB^(k-1)<=y:=by
  have:=Jo (l:=bC y) (by intro e;rw[e]at hy;simp at hy;omega) (iQ y)
  rwa [hy,bI]at this
 refine⟨?_,hlo,by rw[cI,eC];omega,?_,lD hg _,lD (uI hg _) _,?_,oO,bh _,?_,uI hg _⟩;·have v:(List.replicate (n-k+1) (0:Nat)).drop (n-k+1)= []:=cA (by rw[List.length_replicate];exact bh _);rw[v,show val []=0 from rfl,lP,ed];exact f.symm
 ·have z:BB^(n-k+1)*val ((T.drop (n-k+1)).take k)<=x*2^s:=oE;have C:x*2^s<BB^n*2^s:=Nat.mul_lt_mul_of_pos_right p (nL oR);have D:BB^n*2^s=BB^(n-k+1)*(BB^(k-1)*2^s):=by rw[<-gw,<-Nat.pow_add,show n-k+1+(k-1)=n by omega]
  have E:BB^(k-1)*2^s<=y*2^s:=dy _ u;have K:BB^(n-k+1)*val ((T.drop (n-k+1)).take k)<BB^(n-k+1)*(BB^(k-1)*2^s):=oE;have:=Nat.lt_of_mul_lt_mul_left K;omega
 ·intro d h;rw[ld h];exact eX
 ·intro q H;omega
theorem LI.done(h:LI (x*2^s) (y*2^s) (n+1) k L 0 [] rs rest Q)(hk:k<=n+1):val Q=x/y/\val rs=(x%y)*2^s/\val ((rs++rest).take (n+1))=(x%y)*2^s:=by
 have e:=h.eq;simp only[val,Nat.pow_zero,fi,dm,fh]at e;have C:0<2^s:=nL oR;have v:x*2^s=val Q*(y*2^s)+val rs:=by rw[js (val Q)];omega
 obtain⟨p,f⟩:=Jr v h.lt;rw[Nat.mul_div_mul_right _ _ C]at p;rw[Nat.mul_mod_mul_right]at f;refine⟨p,f,?_⟩;have:(rs++rest).take (n+1)=rs++List.replicate (n+1-k) 0:=by
  apply List.ext_getElem?;intro i;by_cases z:i<n+1
  ·rw[eI z];by_cases u:i<k;·rw[di (by rw[h.rsl];exact u),di (by rw[h.rsl];exact u)]
   rw[cM (by rw[h.rsl];omega),cM (by rw[h.rsl];omega),h.rsl,h.zs (i-k) oE];rw[List.getElem?_replicate,if_pos oE]
  rw[fL (by rw[cI];omega),fL (by simp[h.rsl];omega)]
 rw[this,val_append,zq,lP,ed,f]
