/- Lemmas and walks; no statement is proved here. -/
import Derived.OwnWalkIn
import Derived.WalkMore
import Derived.LoopTactic
import Derived.Deep.LoopGhost
import Derived.Test.YtefnknhjlejalaaGreatDoorM06
import Derived.Test.YtefnknhjlejalaaGreatDoorM05
set_option linter.unusedVariables false
set_option linter.unusedSimpArgs false
set_option maxRecDepth 20000
set_option maxHeartbeats 6000000
namespace Go.Proofs.YtefnknhjlejalaaGreatDoor
open Go.Proofs.Tryz
theorem afr{p:Prop}(h:p:=by exact(hb.cell (p:=⟨w.heap.size,0,none⟩) (by simp;omega)).trans (by simp[go_sem])):p:=h
theorem afs{p:Prop}(h:p:=by have HD:=Hd hD;clear hr hb hk ht hB hbW hb' cl cg hv hD;gi_wp2;go_ret;exact HD.out):p:=h
theorem aft{p:Prop}(h:p:=by exact(hb.cell (p:=⟨w.heap.size+1,0,none⟩) (by simp)).trans (by simp[go_sem])):p:=h
theorem adi{p:Prop}(h:p:=by
 have hbW:Below w.heap.size w W:=(((Below.refl w.heap.size w).alloc (Nat.le_refl _) _).alloc (by simp) _).trans (hb.mono (by simp;omega));refine LP (A:=A) (B:=B) (n:=n) (c:=c) (m:=m) (d:=d) i W ?_ ?_ (H.out.keep (Keeps.of_below hbW [])) (G.out.keep (Keeps.of_below hbW [])) (aO x) (aO y);·exact afr
 exact aft):p:=h
theorem adG{p:Prop}(h:p:=by rw[hv]at ht;have hD:=hr.dr hb' hM hk cl (by omega) cg ht hbW;exact afs):p:=h
theorem adK{p:Prop}(h:p:=by gi_wp2;refine⟨((Keeps.refl [w.heap.size+1] W'').setCell (p:=⟨w.heap.size+1,0,none⟩) (.inl (by simp)) _).to (by rw[HSZ.out];omega),⟨rfl,hbW2.setCell (p:=⟨w.heap.size+1,0,none⟩) (by simp) _⟩,?_,by simp[x3]⟩;rw[<-HZ.out,HE.out];exact cZ x2):p:=h
theorem adL{p:Prop}(h:p:=by
 clear v1 v2 g1 g2 t1 t2 l1 l2;have k0:IntKind.i64.wrap ((n:Int)-(m:Int))=(n:Int)-(m:Int):=by rw[IntKind.wrap_i64];omega
 refine sH func111 rfl ntmps111 ?_;gi_wp2;exact⟨_,by simp[results,go_sem],jL (HE.out.symm.trans HZ.out),by exact bel⟩):p:=h
theorem adR{p:Prop}(h:p:=by exact afr):p:=h
theorem adT{p:Prop}(h:p:=by exact aft):p:=h
theorem ad7{p:Prop}(h:p:=by
 subst h0;have hr2:=hr.out;rw[Hz hld]at hr2;have HR:=Hd hr2;clear hr2 hr hld;gi_wp2;go_roundw;case rel=>exact⟨j,by omega,by go_num,HR.out,hb⟩
 case measure=>simp[intOf]):p:=h
theorem aem{p:Prop}(h:p:=by go_ret;have hs2:=(HSL.out.1.go HT.out.2.2).nY HT.out.2.1;rw[eG,HT.out.1,HSL.out.2.2]at hs2;exact⟨_,q,i+m,rfl,hs2,hb.trans (HT.out.2.2.mono hsz)⟩):p:=h
theorem aen{p:Prop}(h:p:=by exact⟨⟨i+1,_,by omega,by go_num,HS.out.1,HS.out.2,hb'.setCell (p:=⟨w.heap.size,i+k,none⟩) (Nat.le_refl _) _⟩,by simp[intOf];omega⟩):p:=h
theorem aey{p:Prop}(h:p:=by clear v1 v2 g1 g2 t1 t2 l1 l2;refine ent func64 rfl ntmps64 ?_;gi_wp2;go_ret;exact⟨jL (HE.out.symm.trans HZ.out),Below.refl _ _⟩):p:=h
theorem aeF{p:Prop}(h:p:=by exact⟨n,Nat.le_refl _,rfl,by rw[List.take_of_length_le (by rw[H.out.eu];exact Nat.le_refl _)];rfl,Below.refl _ _⟩):p:=h
theorem aeZ{p:Prop}(h:p:=by clear hr2 hr;gi_wp2;go_ret;exact⟨0,rfl,Nat.zero_le _,by rw[List.take_zero];exact HR.out,hb⟩):p:=h
theorem ae8{p:Prop}(h:p:=by exact⟨0,_,Nat.zero_le _,rfl,P.out.2.2.2.2.2.1,P.out.2.2.2.2.2.2.1,P.out.2.2.2.2.2.2.2⟩):p:=h
variable {l us vs ws a b out q M N ms R:List Nat}{j x y u1 u0 v1 u2 v2 g head t m i over n k V r lo d c b1 b2 s:Nat}{o owed:Int}{w:World}{A B:Option Addr}{F:List Int}
theorem drop_cons(h:l[j]?=some x):l.drop j=x::l.drop (j+1):=by have hj:j<l.length:=(List.getElem?_eq_some_iff.1 h).1;rw[List.drop_eq_getElem_cons hj];congr 1;exact(List.getElem?_eq_some_iff.1 h).2
theorem DZ(hx:l[j]?=some x)(hy:l[j+1]?=some y)(hl:l.length=j+2):val (l.drop j)=y*BB+x:=by rw[drop_cons hx,drop_cons hy,List.drop_of_length_le (by omega)];simp only[val,Nat.mul_zero,Nat.add_zero];rw[Nat.mul_comm y BB,Nat.add_comm]
theorem Lr{z:Nat}(hx:l[j]?=some x)(hy:l[j+1]?=some y)(hz:l[j+2]?=some z)(hl:l.length=j+3):val (l.drop j)=(z*BB+y)*BB+x:=by rw[drop_cons hx,drop_cons hy,drop_cons hz,List.drop_of_length_le (by omega)];simp only[val,Nat.mul_zero,Nat.add_zero];rw[Nat.mul_comm (z*BB+y) BB,Nat.mul_comm z BB,Nat.mul_add,Nat.mul_add];omega
structure lZ(us vs:List Nat)(g:Nat):Prop where
 small:g<BB
 low:val us/val vs<=g
theorem Ls(hu:Good us)(hv:Good vs)(h1:us[j+1]?=some u1)(h0:us[j+2]?=some u0)(hl:us.length=j+3)(hv1:vs[j+1]?=some v1)(hlv:vs.length=j+2)(hp:0<v1)(hW:val us<BB*val vs):
 lZ us vs (min ((u0*BB+u1)/v1) (BB-1)):=by
 have hV0:0<val vs:=by
  rcases Nat.eq_zero_or_pos (val vs)with e|e;·rw[e,Nat.mul_zero]at hW;omega
  exact e
 refine⟨Nat.lt_of_le_of_lt (Nat.min_le_right _ _) (Nat.sub_lt eX Nat.one_pos),?_⟩;have hq:val us/val vs*val vs<=val us:=Nat.div_mul_le_self _ _;have a1:val us/val vs<BB:=(Nat.div_lt_iff_lt_mul hV0).2 hW;obtain⟨b1,b2⟩:=lF hu (k:=j+1) (by omega);obtain⟨c1,c2⟩:=lF hv (k:=j+1) (by omega);rw[DZ h1 h0 (by omega)]at b1 b2;rw[drop_cons hv1,List.drop_of_length_le (by omega)]at c1;simp only[val,Nat.mul_zero,Nat.add_zero]at c1;exact Nat.le_min.2 ⟨Lc hq c1 b2 hp,Nat.le_sub_one_of_lt a1⟩
theorem OI(hu:Good us)(hv:Good vs)(h2:us[j]?=some u2)(h1:us[j+1]?=some u1)(h0:us[j+2]?=some u0)(hl:us.length=j+3)(hv2:vs[j]?=some v2)(hv1:vs[j+1]?=some v1)(hlv:vs.length=j+2)
 (hV0:0<val vs) (hg:lZ us vs g) (ht:(u0*BB+u1)*BB+u2<g*(v1*BB+v2)):lZ us vs (g-1):=by
 obtain⟨b1,b2⟩:=lF hu (k:=j) (by omega);obtain⟨c1,c2⟩:=lF hv (k:=j) (by omega);rw[Lr h2 h1 h0 hl]at b1 b2;rw[DZ hv2 hv1 hlv]at c1 c2;have h:=OB c1 b2 ht;have h3:val us/val vs<g:=(Nat.div_lt_iff_lt_mul hV0).2 h;have:=hg.small;exact⟨by omega,by omega⟩
theorem OJ(hu:Good us)(hv:Good vs)(h2:us[j]?=some u2)(h1:us[j+1]?=some u1)(h0:us[j+2]?=some u0)(hl:us.length=j+3)(hv2:vs[j]?=some v2)(hv1:vs[j+1]?=some v1)(hlv:vs.length=j+2)
 (hp:0<v1) (hg:lZ us vs g) (ht:g*(v1*BB+v2)<=(u0*BB+u1)*BB+u2):g*val vs<=val us+val vs:=by
 obtain⟨b1,b2⟩:=lF hu (k:=j) (by omega);obtain⟨c1,c2⟩:=lF hv (k:=j) (by omega);rw[Lr h2 h1 h0 hl]at b1 b2;rw[DZ hv2 hv1 hlv]at c1 c2;refine OC c2 b1 ht ?_;have:=hg.small;have:1*BB<=v1*BB:=Nat.mul_le_mul_right _ hp;omega
theorem SN(hg:g<BB)(hv:v2<BB)(hh:g*v1<=head)(h:BB-1<head-g*v1):g*(v1*BB+v2)<=head*BB+u2:=by
 have e:g*(v1*BB+v2)=g*v1*BB+g*v2:=by rw[Nat.mul_add,Nat.mul_assoc]
 have h1:g*v2<=BB*BB:=Nat.mul_le_mul (by omega) (by omega);have h2:(g*v1+BB)*BB<=head*BB:=Nat.mul_le_mul_right _ (by omega);rw[Nat.add_mul]at h2;omega
theorem D5(hh:g*v1<=head):(head-g*v1)*BB+u2<g*v2↔head*BB+u2<g*(v1*BB+v2):=by
 have e:g*(v1*BB+v2)=g*v1*BB+g*v2:=by rw[Nat.mul_add,Nat.mul_assoc]
 have e2:(head-g*v1)*BB=head*BB-g*v1*BB:=Nat.sub_mul ..;have h2:g*v1*BB<=head*BB:=Nat.mul_le_mul_right _ hh;omega
theorem zW(hus:us=ws++ [t])(Yp:ws.length=vs.length)(hv:Good vs)(hV0:0<val vs)(hg:lZ us vs g)
 (hge:0<=(t:Int)+(aY ((List.range vs.length).map fun j=>(aB ws j:Int)-(g:Int)*(aB vs j:Int)) 0).2):
 g=val us/val vs/\val (aY ((List.range vs.length).map fun j=>(aB ws j:Int)-(g:Int)*(aB vs j:Int)) 0).1=val us%val vs/\(t:Int)+(aY ((List.range vs.length).map fun j=>(aB ws j:Int)-(g:Int)*(aB vs j:Int)) 0).2=0:=by
 have h1:=Hq g Yp;obtain⟨hm,hml⟩:=ji ((List.range vs.length).map fun j=>(aB ws j:Int)-(g:Int)*(aB vs j:Int)) 0;rw[List.length_map,List.length_range]at hml;have hmv:=jh _ hm;rw[hml]at hmv;have hVl:=jh vs hv;have hU:val us=val ws+BB^vs.length*t:=by rw[hus,val_append,Yp];simp[val]
 generalize (aY ((List.range vs.length).map fun j=>(aB ws j:Int)-(g:Int)*(aB vs j:Int)) 0).2=o at*
 generalize val (aY ((List.range vs.length).map fun j=>(aB ws j:Int)-(g:Int)*(aB vs j:Int)) 0).1=m at*
 have hpw:((BB^vs.length:Nat):Int)=(BB:Int)^vs.length:=Int.natCast_pow ..;rw[<-hpw]at h1;have h2:(m:Int)+((BB^vs.length:Nat):Int)*((t:Int)+o)=(val us:Int)-(g:Int)*(val vs:Int):=by rw[Int.mul_add,hU,Int.natCast_add,Int.natCast_mul];omega
 have h3:0<=((BB^vs.length:Nat):Int)*((t:Int)+o):=Int.mul_nonneg (by omega) hge;have h4:g*val vs<=val us:=by have:((g*val vs:Nat):Int)=(g:Int)*(val vs:Int):=Int.natCast_mul ..;omega
 have h5:g=val us/val vs:=Nat.le_antisymm ((Nat.le_div_iff_mul_le hV0).2 h4) hg.low;have h6:=Nat.mod_add_div (val us) (val vs);have h7:=Nat.mod_lt (val us) hV0;rw[<-h5]at h6;have h8:(m:Int)+((BB^vs.length:Nat):Int)*((t:Int)+o)=((val us%val vs:Nat):Int):=by
  rw[h2];have:((val vs*g:Nat):Int)=(g:Int)*(val vs:Int):=by rw[Nat.mul_comm];exact Int.natCast_mul ..
  omega
 obtain⟨h9,h10⟩:=Hr hmv (by omega) h8;exact⟨h5,h10,h9⟩
theorem D6(hus:us=ws++ [t])(Yp:ws.length=vs.length)(hv:Good vs)(QA:g*val vs<=val us+val vs){m:List Nat}
 (hmo:aY ((List.range vs.length).map fun j=>(aB ws j:Int)-(g:Int)*(aB vs j:Int)) 0=(m,o)) (hlt:(t:Int)+o<0):
 1<=g/\g-1=val us/val vs/\val (aY ((List.range vs.length).map fun j=>(aB m j:Int)+(aB vs j:Int)) 0).1=val us%val vs/\(t:Int)+o+(aY ((List.range vs.length).map fun j=>(aB m j:Int)+(aB vs j:Int)) 0).2=0:=by
 have h1:=Hq g Yp;obtain⟨hm,hml⟩:=ji ((List.range vs.length).map fun j=>(aB ws j:Int)-(g:Int)*(aB vs j:Int)) 0;rw[List.length_map,List.length_range]at hml;rw[hmo]at h1 hm hml;have hmv:=jh _ hm;simp only at h1 hm hml hmv;rw[hml]at hmv;have hVl:=jh vs hv;have hU:val us=val ws+BB^vs.length*t:=by rw[hus,val_append,Yp];simp[val]
 have hb1:=VL (ws:=m) (vs:=vs) hml;obtain⟨hn,hnl⟩:=ji ((List.range vs.length).map fun j=>(aB m j:Int)+(aB vs j:Int)) 0;rw[List.length_map,List.length_range]at hnl;have hnv:=jh _ hn;rw[hnl]at hnv;generalize (aY ((List.range vs.length).map fun j=>(aB m j:Int)+(aB vs j:Int)) 0).2=o2 at*
 generalize val (aY ((List.range vs.length).map fun j=>(aB m j:Int)+(aB vs j:Int)) 0).1=n at*
 have hpw:((BB^vs.length:Nat):Int)=(BB:Int)^vs.length:=Int.natCast_pow ..;rw[<-hpw]at h1 hb1;have e1:((BB^vs.length:Nat):Int)*((t:Int)+o)=((BB^vs.length:Nat):Int)*(t:Int)+((BB^vs.length:Nat):Int)*o:=Int.mul_add ..;have e0:((val us:Nat):Int)=(val ws:Int)+((BB^vs.length:Nat):Int)*(t:Int):=by rw[hU,Int.natCast_add,Int.natCast_mul]
 have h2:(val m:Int)+((BB^vs.length:Nat):Int)*((t:Int)+o)=(val us:Int)-(g:Int)*(val vs:Int):=by omega
 have h3:((BB^vs.length:Nat):Int)*((t:Int)+o)<=((BB^vs.length:Nat):Int)*(-1):=Int.mul_le_mul_of_nonneg_left (by omega) (by omega);have eg:((g*val vs:Nat):Int)=(g:Int)*(val vs:Int):=Int.natCast_mul ..;have h4:val us<g*val vs:=by omega
 have hg1:1<=g:=by
  rcases Nat.eq_zero_or_pos g with e|e;·subst e;simp at h4
  exact e
 obtain⟨f,rfl⟩:∃f,g=f+1:=⟨g-1,by omega⟩;rw[Nat.add_mul,Nat.one_mul]at QA h4 eg;have h5:val us=f*val vs+(val us-f*val vs):=by omega
 obtain⟨h6,h7⟩:=Jr h5 (by omega);have e2:((BB^vs.length:Nat):Int)*((t:Int)+o+o2)=((BB^vs.length:Nat):Int)*((t:Int)+o)+((BB^vs.length:Nat):Int)*o2:=Int.mul_add ..;have h8:(n:Int)+((BB^vs.length:Nat):Int)*((t:Int)+o+o2)=((val us-f*val vs:Nat):Int):=by omega
 obtain⟨h9,h10⟩:=Hr hnv (by omega) h8;exact⟨hg1,by omega,by omega,h9⟩
theorem D7(l:List Nat)(i:Nat):val (l.drop i)=aB l i+BB*val (l.drop (i+1)):=by
 by_cases h:i<l.length;·rw[List.drop_eq_getElem_cons h,val];simp[aB,List.getD,List.getElem?_eq_getElem h]
 rw[List.drop_of_length_le (by omega),List.drop_of_length_le (by omega)];simp[val,aB,List.getD,List.getElem?_eq_none (show l.length<=i by omega)]
theorem fF(h:Good l)(i:Nat):aB l i<BB:=by
 unfold aB List.getD
 cases hq:l[i]? with
 |none=>exact eX
 |some d=>exact h d (List.mem_of_getElem? hq)
def BM(a b out:List Nat)(i over:Nat):Prop:=val out+BB^i*(over+val (a.drop i)+val (b.drop i))=val a+val b/\out.length=i/\Good out/\over<=1
theorem EK(a b:List Nat):BM a b [] 0 0:=⟨by simp[val],rfl,tu,by omega⟩
theorem Iy(ha:Good a)(hb:Good b)(h:BM a b out i over):
 BM a b (out++ [(aB a i+aB b i+over)%BB]) (i+1) ((aB a i+aB b i+over)/BB):=by
 obtain⟨h1,h2,h3,h4⟩:=h;have e:=Nat.mod_add_div (aB a i+aB b i+over) BB;have la:=fF ha i;have lb:=fF hb i;refine⟨?_,by simp[h2],zu h3 (Nat.mod_lt _ eX),?_⟩
 ·rw[val_append,h2];rw[D7 a i,D7 b i]at h1;simp only[val,Nat.mul_zero,Nat.add_zero,Nat.pow_succ];generalize (aB a i+aB b i+over)%BB=m at*;generalize (aB a i+aB b i+over)/BB=q at*;generalize val (a.drop (i+1))=x at*;generalize val (b.drop (i+1))=y at*;generalize BB^i=p at*
  have e1:over+(aB a i+BB*x)+(aB b i+BB*y)=m+BB*(q+x+y):=by rw[Nat.mul_add,Nat.mul_add];omega
  rw[e1,Nat.mul_add,<-Nat.mul_assoc]at h1;omega
 ·refine Nat.lt_succ_iff.1 ((Nat.div_lt_iff_lt_mul eX).2 ?_);omega
theorem NV(h:BM a b out i 0)(ha:a.length<=i)(hb:b.length<=i):val out=val a+val b/\Good out:=by obtain⟨h1,-,h3,-⟩:=h;rw[List.drop_of_length_le ha,List.drop_of_length_le hb]at h1;simp only[val,Nat.add_zero,Nat.mul_zero]at h1;exact⟨h1,h3⟩
def Lu(a b out:List Nat)(i:Nat)(owed:Int):Prop:=(val out:Int)+((BB^i:Nat):Int)*((val (a.drop i):Int)-(val (b.drop i):Int)-owed)=(val a:Int)-(val b:Int)/\out.length=i/\Good out/\0<=owed/\owed<=1
theorem OL(a b:List Nat):Lu a b [] 0 0:=⟨by simp[val],rfl,tu,by omega,by omega⟩
theorem Hw{n:Int}(ha:Good a)(hb:Good b)(h:Lu a b out i owed)(hn:n=(aB a i:Int)-(aB b i:Int)-owed)(hk:(k:Int)=if n<0 then n+(BB:Int)else n):
 Lu a b (out++ [k]) (i+1) (if n<0 then 1 else 0):=by
 obtain⟨h1,h2,h3,h4,h5⟩:=h;have la:=fF ha i;have lb:=fF hb i;have hkB:k<BB:=by split at hk<;>omega
 refine⟨?_,by simp[h2],zu h3 hkB,by split<;>omega,by split<;>omega⟩;rw[val_append,h2,Nat.pow_succ];rw[D7 a i,D7 b i]at h1;simp only[val,Nat.mul_zero,Nat.add_zero];rw[Int.natCast_add,Int.natCast_mul,Int.natCast_mul];rw[Int.natCast_add,Int.natCast_add,Int.natCast_mul,Int.natCast_mul]at h1;generalize ((BB^i:Nat):Int)=p at*
 generalize (val (a.drop (i+1)):Int)=x at*
 generalize (val (b.drop (i+1)):Int)=y at*
 have e1:(aB a i:Int)+(BB:Int)*x-((aB b i:Int)+(BB:Int)*y)-owed=(k:Int)+(BB:Int)*(x-y-(if n<0 then 1 else 0)):=by rw[Int.mul_sub,Int.mul_sub,hk];split<;>omega
 rw[e1,Int.mul_add,<-Int.mul_assoc]at h1;omega
theorem VY(h:Lu a b out a.length owed)(hb:b.length<=a.length)(hle:val b<=val a):val out=val a-val b/\Good out:=by
 obtain⟨h1,h2,h3,h4,h5⟩:=h;rw[List.drop_of_length_le (Nat.le_refl _),List.drop_of_length_le hb]at h1;have hv:=jh _ h3;rw[h2]at hv;simp only[val]at h1;generalize BB^a.length=p at*
 have ho:owed=0:=by
  by_cases c:owed=0;·exact c
  have:owed=1:=by omega
  subst this;rw[show((0:Nat):Int)-((0:Nat):Int)-1= -1 from rfl]at h1;omega
 subst ho;refine⟨?_,h3⟩;rw[show((0:Nat):Int)-((0:Nat):Int)-0=0 from rfl]at h1;omega
theorem drop_set(h:i<l.length)(z:Nat):(l.set i z).drop i=z::l.drop (i+1):=by rw[List.drop_eq_getElem_cons (by simpa using h),List.drop_set_of_lt (by omega)];simp
def LD(a q:List Nat)(V i r:Nat):Prop:=val (a.drop i)=val (q.drop i)*V+r/\r<V/\q.length=a.length/\Good q
theorem LG(ha:Good a)(h:LD a q V (i+1) r)(hi:i<a.length):
 LD a (q.set i ((r*BB+aB a i)/V)) V i ((r*BB+aB a i)%V)/\(r*BB+aB a i)/V<BB:=by
 obtain⟨h1,h2,h3,h4⟩:=h;obtain⟨g1,g2,g3⟩:=OA (x:=aB a i) (show 0<V by omega) h1 h2;have g4:=g3 (fF ha i);refine⟨⟨?_,g2,by simpa using h3,?_⟩,g4⟩;·rw[D7,g1,drop_set (by omega),val]
 ·intro d hd;rcases List.mem_or_eq_of_mem_set hd with hd|rfl;·exact h4 d hd
  exact g4
theorem QB(h:LD a q V 0 r):val q=val a/V/\r=val a%V:=by obtain⟨h1,h2,-,-⟩:=h;rw[List.drop_zero,List.drop_zero]at h1;exact Jr h1 h2
theorem LH{hi mid:Nat}(h1:lo*V<=r)(h2:r<(hi+1)*V)(hm:mid=(lo+hi+1)/2)(hl:lo<hi):
 (mid*V<=r->mid*V<=r/\r<(hi+1)*V/\hi-mid<hi-lo/\mid<=hi)/\(¬mid*V<=r->lo*V<=r/\r<(mid-1+1)*V/\mid-1-lo<hi-lo/\lo<=mid-1):=by
 refine⟨fun h=>⟨h,h2,by omega,by omega⟩,fun h=>⟨h1,?_,by omega,by omega⟩⟩;rw[show mid-1+1=mid by omega];omega
theorem search_end(h1:lo*V<=r)(h2:r<(lo+1)*V):lo=r/V/\r-lo*V=r%V:=by rw[Nat.add_mul,Nat.one_mul]at h2;exact Jr (q:=lo) (r:=r-lo*V) (by omega) (by omega)
theorem LJ(m n:Nat):Nat.gcd n (m%n)=Nat.gcd m n:=by rw[Nat.gcd_comm n,<-Nat.gcd_rec,Nat.gcd_comm]
section
open Go.RowKit
theorem jm(l:List Nat):(ints l).length=l.length:=by simp[ints]
theorem ints_at{x:Int}(h:(ints l)[k]?=some x):∃d:Nat,l[k]?=some d/\x=(d:Int):=by unfold ints at h;rw[List.getElem?_map]at h;obtain⟨d,h1,h2⟩:=Option.map_eq_some_iff.1 h;exact⟨d,h1,h2.symm⟩
theorem eG(l:List Nat)(k:Nat):(ints l).take k=ints (l.take k):=by simp[ints,List.map_take]
theorem SS(l:List Nat)(k:Nat):(ints l).drop k=ints (l.drop k):=by simp[ints,List.map_drop]
theorem ints_set(l:List Nat)(k d:Nat):(ints l).set k (d:Int)=ints (l.set k d):=by simp[ints,List.map_set]
theorem lH(n:Nat):List.replicate n (0:Int)=ints (List.replicate n 0):=by simp[ints]
theorem VZ(h:d<BB):i64 (d:Int):=by have:BB<=1073741824:=Nat.le_refl _;unfold i64;omega
theorem fU(h:Good l):∀x,x∈ints l->i64 x:=by intro x hx;obtain⟨d,hd,rfl⟩:=List.mem_map.1 hx;exact VZ (h d hd)
theorem g_(h:d<BB):d<=1073741823:=Nat.le_of_lt_succ h
theorem Hy(h:d<=1073741823):d<BB:=Nat.lt_succ_of_le h
theorem Sl.mG(h:Sl Int w M A n c (ints l))(hg:Good l)(hk:k<n):
 ∃(b o d:Nat),A=some ⟨b,o,none⟩/\w.cell? ⟨b,o+k,none⟩=some (.int .i64 (d:Int))/\d<=1073741823/\l[k]?=some d/\aB l k=d:=by
 obtain⟨b,o,x,rfl,hc,-,-,hx⟩:=h.pR hk;obtain⟨d,hd,rfl⟩:=ints_at hx;exact⟨b,o,d,rfl,hc,g_ (hg d (List.mem_of_getElem? hd)),hd,by simp[aB,List.getD,hd]⟩
theorem Sl.eu(h:Sl Int w M A n c (ints l)):l.length=n:=by rw[<-jm];exact h.len
theorem Hz(h:l[k]?=some 0):mD (l.take (k+1))=mD (l.take k):=by rw[List.take_add_one,h,Option.toList_some,SA]
theorem H_(hg:Good l)(h:l[k]?=some d)(hd:d≠0):mD (l.take (k+1))=l.take (k+1):=by
 have e:l.take (k+1)=l.take k++ [d]:=by rw[List.take_add_one,h,Option.toList_some]
 rw[e];exact SC (by rw[<-e];exact lD hg _) hd
theorem LK:mD []= []:=by unfold mD;simp[val,bU]
def DV(w:World)(M:List Nat)(v:Value)(x:Nat):Prop:=∃A n c,v=.slice A n c/\Sl Int w M A n c (ints (bC x))
def DR(w:World)(M:List Nat)(x:Nat)(e:Ending)(w':World):Prop:=∃A n c,e=.returned (.slice A n c)/\Sl Int w' M A n c (ints (bC x))/\Below w.heap.size w w'
def ZV(w:World)(M:List Nat)(v:Value)(z:Int):Prop:=∃A n c,v=.agg #[.bool (aG z),.slice A n c]/\Sl Int w M A n c (ints (bG z))
theorem ZV.go{w w':World}{M:List Nat}{v:Value}{z:Int}(h:ZV w M v z)(hb:Below w.heap.size w w'):ZV w' M v z:=by obtain⟨A,n,c,rfl,h⟩:=h;exact⟨A,n,c,rfl,h.go hb⟩
theorem ZV.zero(w:World)(M:List Nat):ZV w M (.agg #[.bool false,.slice none 0 0]) 0:=⟨none,0,0,rfl,by rw[show bG 0= []from bU];exact Sl.nil0⟩
theorem DV.go{w w':World}{M:List Nat}{v:Value}{x:Nat}(h:DV w M v x)(hb:Below w.heap.size w w'):DV w' M v x:=by obtain⟨A,n,c,rfl,h⟩:=h;exact⟨A,n,c,rfl,h.go hb⟩
def QV(w:World)(M:List Nat)(v:Value)(r:Rt):Prop:=∃u1 u2,v=.agg #[u1,u2]/\ZV w M u1 r.num/\ZV w M u2 r.den
theorem QV.go{w w':World}{M:List Nat}{v:Value}{r:Rt}(h:QV w M v r)(hb:Below w.heap.size w w'):QV w' M v r:=by obtain⟨u1,u2,rfl,h1,h2⟩:=h;exact⟨u1,u2,rfl,h1.go hb,h2.go hb⟩
open Go.Shelf
attribute [local go_sem] Oper.semAt_some
theorem jw(A:Option Addr)(n c:Nat)(l:List Nat)(w:World)(hx:Sl Int w M A n c (ints l))(hg:Good l):
 Calls prog 113 #[.slice A n c] w fun e w'=>∃k,e=.returned (.slice A k c)/\k<=n/\l.take k=bC (val l)/\Below w.heap.size w w':=by
 refine wid ?_;have H:=Hd hx;have HG:=Hd hg;have hs:=hx.small;have hc:=hx.cap;clear hx hg;refine ent func113 rfl ntmps113 ?_;gi_wp2;gi_loopw[3] (fun i wr=>∃k:Nat,k<=n/\i=.int .i64 k/\Hid (mD (l.take k)=bC (val l))/\Below w.heap.size w wr) (fun i _=>(intOf i).toNat);case atStart=>exact aeF
 case round=>
  obtain⟨k,hk,rfl,hr,hb⟩:=hrel;rcases Nat.eq_zero_or_pos k with rfl|hpos;·have hr2:=hr.out;rw[List.take_zero,LK]at hr2;have HR:=Hd hr2;have s1:=nZ (k:=0) underlying125 (sz:=1) (fun w=>by kernel_rfl) A (Nat.zero_le n) hc;exact aeZ
  ·obtain⟨j,rfl⟩:∃j,k=j+1:=⟨k-1,by omega⟩;obtain⟨b,o,d,rfl,hcell,hd,hld,-⟩:=(H.out.keep (Keeps.of_below hb M)).mG HG.out (show j<n by omega);have ej:((j+1:Nat):Int)-1=(j:Int):=by omega
   have ew:IntKind.i64.wrap ((j:Nat):Int)=(j:Int):=by rw[IntKind.wrap_i64];omega
   by_cases h0:d=0;·exact ad7
   have hr2:=hr.out;rw[H_ HG.out hld h0]at hr2;have HR:=Hd hr2;have hd0:((d:Int)==0)=false:=by simpa using h0
   have s1:=nZ (k:=j+1) underlying125 (sz:=1) (fun w=>by kernel_rfl) (some ⟨b,o,none⟩) hk hc;clear hr2 hr hld;gi_wp2;go_ret;exact⟨j+1,rfl,hk,HR.out,hb⟩
theorem jy(A:Option Addr)(n c:Nat)(l:List Nat)(w:World)(hx:Sl Int w M A n c (ints l))(hg:Good l):
 Calls prog 94 #[.slice A n c] w fun e w'=>∃k,e=.returned (.slice A k c)/\k<=n/\l.take k=bC (val l)/\Below w.heap.size w w':=by
 refine wid ?_;have H:=Hd hx;have HG:=Hd hg;have hs:=hx.small;have hc:=hx.cap;clear hx hg;refine ent func94 rfl ntmps94 ?_;gi_wp2;gi_loopw[3] (fun i wr=>∃k:Nat,k<=n/\i=.int .i64 k/\Hid (mD (l.take k)=bC (val l))/\Below w.heap.size w wr) (fun i _=>(intOf i).toNat);case atStart=>exact aeF
 case round=>
  obtain⟨k,hk,rfl,hr,hb⟩:=hrel;rcases Nat.eq_zero_or_pos k with rfl|hpos;·have hr2:=hr.out;rw[List.take_zero,LK]at hr2;have HR:=Hd hr2;have s1:=nZ (k:=0) underlying26 (sz:=1) (fun w=>by kernel_rfl) A (Nat.zero_le n) hc;exact aeZ
  ·obtain⟨j,rfl⟩:∃j,k=j+1:=⟨k-1,by omega⟩;obtain⟨b,o,d,rfl,hcell,hd,hld,-⟩:=(H.out.keep (Keeps.of_below hb M)).mG HG.out (show j<n by omega);have ej:((j+1:Nat):Int)-1=(j:Int):=by omega
   have ew:IntKind.i64.wrap ((j:Nat):Int)=(j:Int):=by rw[IntKind.wrap_i64];omega
   by_cases h0:d=0;·exact ad7
   have hr2:=hr.out;rw[H_ HG.out hld h0]at hr2;have HR:=Hd hr2;have hd0:((d:Int)==0)=false:=by simpa using h0
   have s1:=nZ (k:=j+1) underlying26 (sz:=1) (fun w=>by kernel_rfl) (some ⟨b,o,none⟩) hk hc;clear hr2 hr hld;gi_wp2;go_ret;exact⟨j+1,rfl,hk,HR.out,hb⟩
theorem BI(A:Option Addr)(n c:Nat)(l:List Nat)(i:Nat)(w:World)(hx:Sl Int w M A n c (ints l))(hg:Good l):
 Calls prog 196 #[.slice A n c,.int .i64 (i:Int)] w fun e w'=>e=.returned (.int .i64 (aB l i:Int))/\w'=w:=by
 refine wid ?_;by_cases hi:i<n;·obtain⟨b,o,d,rfl,hcell,hd,hld,hdd⟩:=hx.mG hg hi;have HD:=Hd hdd;have hs:=hx.small;clear hx hg hdd hld;refine ent func196 rfl ntmps196 ?_;gi_wp2;go_ret;exact⟨by rw[HD.out];rfl,rfl⟩
 ·have hd:aB l i=0:=by
    unfold aB List.getD;rw[List.getElem?_eq_none (by rw[hx.eu];omega)];rfl
  rw[hd];clear hx hg hd;refine ent func196 rfl ntmps196 ?_;gi_wp2;go_ret;exact⟨rfl,rfl⟩
theorem QD(A:Option Addr)(n c:Nat)(l:List Nat)(i:Nat)(w:World)(hx:Sl Int w M A n c (ints l))(hg:Good l):
 Calls prog 123 #[.slice A n c,.int .i64 (i:Int)] w fun e w'=>e=.returned (.int .i64 (aB l i:Int))/\w'=w:=by
 refine wid ?_;by_cases hi:i<n;·obtain⟨b,o,d,rfl,hcell,hd,hld,hdd⟩:=hx.mG hg hi;have HD:=Hd hdd;have hs:=hx.small;clear hx hg hdd hld;refine ent func123 rfl ntmps123 ?_;gi_wp2;go_ret;exact⟨by rw[HD.out];rfl,rfl⟩
 ·have hd:aB l i=0:=by
    unfold aB List.getD;rw[List.getElem?_eq_none (by rw[hx.eu];omega)];rfl
  rw[hd];clear hx hg hd;refine ent func123 rfl ntmps123 ?_;gi_wp2;go_ret;exact⟨rfl,rfl⟩
def qK(x y:Nat):Int:=if x<y then-1 else if y<x then 1 else 0
theorem pI(h:x<y):qK x y= -1:=by simp[qK,h]
theorem pJ(h:y<x):qK x y=1:=by unfold qK;rw[if_neg (by omega),if_pos h]
theorem uM(h:x=y):qK x y=0:=by subst h;simp[qK]
theorem tH(A B:Option Addr)(n c m d:Nat)(x y:Nat)(w:World)(hx:Sl Int w M A n c (ints (bC x)))(hy:Sl Int w N B m d (ints (bC y))):
 CB 64 #[.slice A n c,.slice B m d] (.int .i64 (qK x y)) w:=by
 refine wid ?_;have H:=Hd hx;have G:=Hd hy;have hs:=hx.small;have hs2:=hy.small;have l1:=hx.eu;have l2:=hy.eu;have v1:=bI x;have v2:=bI y;have g1:=aO x;have g2:=aO y;have t1:=iQ x;have t2:=iQ y;generalize hz:qK x y=z;have HZ:=Hd hz;clear hx hy hz;by_cases hnm:n=m
 ·subst hnm;generalize bC x=a at*;generalize bC y=b at*;have P:=Zw l1 l2 v1 v2 g1 g2;clear v1 v2 g1 g2 t1 t2 l1 l2;refine ent func64 rfl ntmps64 ?_;gi_wp2
  gi_loopw[5] (fun i wr=>∃k:Nat,k<=n/\i=.int .i64 ((k:Int)-1)/\Hid (a.drop k=b.drop k)/\Below w.heap.size w wr) (fun i _=>(intOf i+1).toNat);case atStart=>exact⟨n,Nat.le_refl _,by go_num,by rw[List.drop_of_length_le (by rw[P.out.1];exact Nat.le_refl _),List.drop_of_length_le (by rw[P.out.2.1];exact Nat.le_refl _)];rfl,Below.refl _ _⟩
  case round=>
   obtain⟨k,hk,rfl,hr,hb⟩:=hrel;rcases Nat.eq_zero_or_pos k with rfl|hpos;·have hr2:=hr.out;rw[List.drop_zero,List.drop_zero]at hr2;have HE:=Hd (uM (show x=y by rw[<-P.out.2.2.1,<-P.out.2.2.2.1,hr2]));clear hr2 hr;gi_wp2;go_ret;exact⟨jL (HE.out.symm.trans HZ.out),hb⟩
   ·obtain⟨j,rfl⟩:∃j,k=j+1:=⟨k-1,by omega⟩;obtain⟨b1,o1,d1,rfl,hc1,hd1,hl1,-⟩:=(H.out.keep (Keeps.of_below hb M)).mG P.out.2.2.2.2.1 (show j<n by omega);obtain⟨b2,o2,d2,rfl,hc2,hd2,hl2,-⟩:=(G.out.keep (Keeps.of_below hb N)).mG P.out.2.2.2.2.2 (show j<n by omega);have ej:((j+1:Nat):Int)-1=(j:Int):=by omega
    rw[ej];have hjn:j<n:=by omega
    have c1:=ah hc1;have c2:=ah hc2;have c3:=ah (w:=wr.drew) hc1;have c4:=ah (w:=wr.drew) hc2;have L:=Hd2 hl1 hl2;clear hl1 hl2 ej hc1 hc2;by_cases h1:d1<d2
    ·have HE:=Hd (pI (show x<y by rw[<-P.out.2.2.1,<-P.out.2.2.2.1];exact uJ P.out.2.2.2.2.1 (P.out.1.trans P.out.2.1.symm) L.out.1 L.out.2 hr.out h1));have hq1:decide ((d1:Int)<(d2:Int))=true:=by simpa using h1
     clear hr;gi_wp2;refine ak [] [0,1,2,3,4,5,6,7,8] (by kernel_rfl) (by kernel_rfl) ?_;refine eH ?_;refine aK ?_;refine lit ?_;gi_wp2;go_ret;exact⟨jL (HE.out.symm.trans HZ.out),hb.drew⟩
    have hq1:decide ((d1:Int)<(d2:Int))=false:=by simpa using h1
    by_cases h2:d2<d1
    ·have HE:=Hd (pJ (show y<x by rw[<-P.out.2.2.1,<-P.out.2.2.2.1];exact uJ P.out.2.2.2.2.2 (P.out.2.1.trans P.out.1.symm) L.out.2 L.out.1 hr.out.symm h2));have hq2:decide ((d2:Int)<(d1:Int))=true:=by simpa using h2
     clear hr;gi_wp2;refine ak [] [0,1,2,3,4,5,6,7,8] (by kernel_rfl) (by kernel_rfl) ?_;refine eH ?_;refine aK ?_;refine lit ?_;gi_wp2;refine ak [] [0,1,2,3,4,5,6,7,8] (by kernel_rfl) (by kernel_rfl) ?_;refine eH ?_;refine aK ?_;refine lit ?_;gi_wp2;go_ret;exact⟨jL (HE.out.symm.trans HZ.out),hb.drew.drew⟩
    have hq2:decide ((d2:Int)<(d1:Int))=false:=by simpa using h2
    have hdd:d1=d2:=by omega
    have hr3:a.drop j=b.drop j:=by rw[drop_cons L.out.1,drop_cons L.out.2,hr.out,hdd]
    have HR3:=Hd hr3;clear hr3 hr hdd;gi_wp2;refine ak [] [0,1,2,3,4,5,6,7,8] (by kernel_rfl) (by kernel_rfl) ?_;refine eH ?_;refine aK ?_;refine lit ?_;gi_wp2;refine ak [] [0,1,2,3,4,5,6,7,8] (by kernel_rfl) (by kernel_rfl) ?_;refine eH ?_;refine aK ?_;refine lit ?_;gi_wp2;go_roundw;case rel=>exact⟨j,by omega,by go_num,HR3.out,hb.drew.drew⟩
    case measure=>simp[intOf]
 ·by_cases hlt:n<m;·have HE:=Hd (pI (show x<y by rw[<-v1,<-v2];exact rF g1 t2 (by omega)));exact aey
  have HE:=Hd (pJ (show y<x by rw[<-v1,<-v2];exact rF g2 t1 (by omega)));exact aey
def oH(l:List Nat)(k:Nat):List (Array Value):=((List.range k).reverse).map (fun i=>#[.int .i64 ((i:Nat):Int),.int .i64 (aB l i:Int)])
theorem lI(l:List Nat)(k:Nat):oH l (k+1)=#[.int .i64 ((k:Nat):Int),.int .i64 (aB l k:Int)]::oH l k:=by unfold oH;rw[List.range_succ,List.reverse_append];rfl
theorem OM(l:List Nat):oH l 0= []:=rfl
theorem Ia(l:List Nat):∀(n k:Nat),k<=n->∃pre,oH l n=pre++oH l k
 |0,k,h=>by have:k=0:=Nat.le_zero.1 h;subst this;exact⟨[],rfl⟩
 |n+1,k,h=>by
  rcases Nat.lt_or_ge n k with g|g
  ·obtain rfl:k=n+1:=by omega
   exact⟨[],rfl⟩
  obtain⟨pre,hp⟩:=Ia l n k g;exact⟨#[.int .i64 ((n:Nat):Int),.int .i64 (aB l n:Int)]::pre,by rw[lI,hp];rfl⟩
theorem zX{w0:World}{N:List Nat}(h1:w0.cell? ⟨b1,0,none⟩=some (.slice A n c))(m1:b1∉M)
 (hx:Sl Int w0 M A n c (ints l)) (hg:Good l):
 Yields Wd prog 208 #[.pointer (some ⟨b1,0,none⟩)] w0 M (oH l n):=by
 intro lp J Jx Jp W hkW hJ hJx hJ0 mO;have hs:=hx.small;have HX:=Hd hx;have HG:=Hd hg;have HR:=Hd mO;have HJ0:=Hd hJ0;have e1:=hkW.cell m1 h1;clear hx hg mO hJ0 h1;simp only[List.append_toArray,List.cons_append,List.nil_append];refine ent func208 rfl ntmps208 ?_;gi_wp2;gi_loopw[3] (fun i wr=>∃k:Nat,k<=n/\i=.int .i64 ((k:Int)-1)/\Hid (J (oH l k) wr)/\Hid (bn W.heap.size M W wr)) (fun i _=>(intOf i+1).toNat);case atStart=>exact⟨n,Nat.le_refl _,by go_num,HJ0.out,bn.refl _ _ _⟩
 case round=>
  obtain⟨k,hk,rfl,hj,hkt⟩:=hrel;rcases Nat.eq_zero_or_pos k with rfl|hpos;·have hj2:=hj.out;rw[OM]at hj2;have HJ2:=Hd hj2;clear hj2;gi_wp2;go_end0;exact .inl ⟨⟨_,rfl⟩,.inl HJ2.out⟩
  ·obtain⟨j,rfl⟩:∃j,k=j+1:=⟨k-1,by omega⟩;have ej:((j+1:Nat):Int)-1=(j:Int):=by omega
   rw[ej];have hjn:j<n:=by omega
   have hkw:=hkW.Uh hkt.out hkW.size;obtain⟨b,o,d,rfl,hcell,hd,hld,hdd⟩:=(HX.out.keep hkw).mG HG.out hjn;have e2:=(hkt.out.IC (World.block_lt_of_cell? W _ e1) m1 e1);have hj2:=hj.out;rw[lI,hdd]at hj2;have hpre:∃pre,oH l n=pre++#[.int .i64 ((j:Nat):Int),.int .i64 (d:Int)]::oH l j:=by obtain⟨pre,hp⟩:=Ia l n (j+1) hk;rw[lI,hdd]at hp;exact⟨pre,hp⟩
   obtain⟨fn,tmps,assign,body,hy,hR⟩:=HR.out W.heap.size _ _ wr hpre (Nat.le_refl _) hkt.out.size hkt.out hj2;have HRR:=Hd hR;clear hR hj2 hpre hkw hld hdd ej;gi_wp2_with (refine HRR.out.mono ?_;rintro e W3 (⟨rfl,hJ3,hk3⟩|⟨rfl,hx3⟩|⟨ch,rfl,hp3⟩))
   ·go_roundw;case rel=>exact⟨j,by omega,by go_num,hJ3,hkt.out.trans hk3⟩
    case measure=>simp[intOf]
   ·refine bodyPost_ret (results_none rfl _ _ _) rfl ?_;exact .inl ⟨⟨_,rfl⟩,.inr hx3⟩
   exact⟨rfl,.inr ⟨ch,rfl,hp3⟩⟩
theorem Jt(A:Option Addr)(n c:Nat)(w:World):
 Calls prog 192 #[.slice A n c] w fun e w'=>e=.returned (.func (.func 208) #[] #[.pointer (some ⟨w.heap.size,0,none⟩)])/\w.alloc (.cells #[.slice A n c] 125)=w':=by
 go_enter func192,ntmps192;go_wp2;go_ret;exact⟨rfl,rfl⟩
theorem LM(A:Option Addr)(n c:Nat)(w:World):
 Calls prog 160 #[.slice A n c] w fun e w'=>e=.returned (.func (.func 208) #[] #[.pointer (some ⟨w.heap.size,0,none⟩)])/\w.alloc (.cells #[.slice A n c] 125)=w':=by
 refine wid ?_;refine ent func160 rfl ntmps160 ?_;gi_wp2_with (refine Cl 192 (Jt A n c _) ?_;rintro e w1 ⟨rfl,rfl⟩)
 go_ret;exact⟨rfl,rfl⟩
theorem D8{x:Array Value}(h:x∈oH l k):x.size=2:=by unfold oH at h;obtain⟨i,-,rfl⟩:=List.mem_map.1 h;rfl
theorem Ib(h: []=oH l k):k=0:=by
 cases k with
 |zero=>rfl
 |succ k=>rw[lI]at h;cases h
theorem jo(A B:Option Addr)(n c m d:Nat)(x y:Nat)(w:World)(hx:Sl Int w M A n c (ints (bC x)))(hy:Sl Int w N B m d (ints (bC y))):
 CB 111 #[.slice A n c,.slice B m d] (.int .i64 (qK x y)) w:=by
 refine wid ?_;have H:=Hd (hx.less (M':= []) (by simp));have G:=Hd (hy.less (M':= []) (by simp));have hs:=hx.small;have hs2:=hy.small;have l1:=hx.eu;have l2:=hy.eu;have v1:=bI x;have v2:=bI y;have g1:=aO x;have g2:=aO y;have t1:=iQ x;have t2:=iQ y;generalize hz:qK x y=z;have HZ:=Hd hz;clear hx hy hz;by_cases hnm:n=m
 ·subst hnm;generalize bC x=a at*;generalize bC y=b at*;have P:=Zw l1 l2 v1 v2 g1 g2;clear v1 v2 g1 g2 t1 t2 l1 l2;refine sH func111 rfl ntmps111 ?_
  gi_wp2_with (refine Cl 160 (LM A n c _) ?_;rintro e w1 ⟨rfl,hw1⟩;have HW1:=Hd hw1;clear hw1)
  have hw:=HW1.out;have b1:Below w.heap.size w w1:=by rw[<-hw];exact(((Below.refl w.heap.size w).alloc (Nat.le_refl _) _).alloc (by simp) _).alloc (by simp;omega) _
  have s1:w1.heap.size=w.heap.size+3:=by rw[<-hw];simp
  have c0:w1.cell? ⟨w.heap.size,0,none⟩=some (.slice B n d):=by rw[<-hw];simp[go_sem]
  have c1:w1.cell? ⟨w.heap.size+1,0,none⟩=some (.int .i64 0):=by rw[<-hw];simp[go_sem]
  have f1:w1.frozen? ⟨w.heap.size+1,0,none⟩=false:=by rw[<-hw];simp[go_sem]
  have c2:w1.cell? ⟨w.heap.size+1+1,0,none⟩=some (.slice A n c):=by rw[<-hw];simp[go_sem]
  clear hw HW1
  refine m_ (M:= [w.heap.size+1]) (w0:=w1) rfl rfl trivial (enters_of func208 (by kernel_rfl) rfl)
   (zX (b1:=w.heap.size+1+1) (N:= []) (l:=a) c2 (by simp) ((H.out.more (b:=w.heap.size+1) (by omega)).keep (Keeps.of_below b1 _)) P.out.2.2.2.2.1) (Keeps.refl _ _) ?hM ?hps
   (fun rest W=>((∃k:Nat,k<=n/\rest=oH a k/\a.drop k=b.drop k)/\Below w.heap.size w W)/\W.cell? ⟨w.heap.size,0,none⟩=some (.slice B n d)/\W.cell? ⟨w.heap.size+1,0,none⟩=some (.int .i64 0)/\W.frozen? ⟨w.heap.size+1,0,none⟩=false)
   (fun j W=>((j=.ret)/\Below w.heap.size w W)/\W.cell? ⟨w.heap.size+1,0,none⟩=some (.int .i64 z)/\W.frozen? ⟨w.heap.size+1,0,none⟩=false)
   (fun _=>((kX _ _).and (kY (Nat.le_refl _) (by omega))).and ((nO _ _ _).and (jV _ _ _)))
   (fun _=>((kX _ _).and (kY (Nat.le_refl _) (by omega))).and (jV _ _ _))
   ⟨⟨⟨n,Nat.le_refl _,rfl,by rw[List.drop_of_length_le (by rw[P.out.1];exact Nat.le_refl _),List.drop_of_length_le (by rw[P.out.2.1];exact Nat.le_refl _)]⟩,b1⟩,c0,c1,f1⟩ ?round ?done ?stop
  case hM=>
   intro q hq;have:q=w.heap.size+1:=by simpa using hq
   omega
  case hps=>intro q hq;exact D8 hq
  case round=>
   rintro l s q rest W-hl hls hsW hrec hkW ⟨⟨⟨k,hk,hrest,hdr⟩,hbW⟩,hc0,hc1,hf1⟩;obtain⟨j,rfl⟩:∃j,k=j+1:=⟨k-1,by
    rcases Nat.eq_zero_or_pos k with rfl|h;·cases hrest
    omega⟩
   rw[lI]at hrest;injection hrest with hq hr';subst hq;have hjn:j<n:=by omega
   obtain⟨d1,hl1⟩:=dW a j (by rw[P.out.1];exact hjn);have hd1:d1<=1073741823:=g_ (P.out.2.2.2.2.1 d1 (List.mem_of_getElem? hl1));have hda:aB a j=d1:=by simp[aB,List.getD,hl1]
   obtain⟨b2,o2,d2,rfl,hc2,hd2,hl2,-⟩:=(G.out.keep (Keeps.of_below hbW [])).mG P.out.2.2.2.2.2 hjn;rw[hda];have L:=h_ hl1 hl2 hr' hdr;clear hl1 hl2 hr' hdr hda;gi_wp2;refine⟨bn.refl _ _ _,fun W''=>(W''.cell? ⟨w.heap.size,0,none⟩=some (.slice (some ⟨b2,o2,none⟩) n d)/\W''.cell? ⟨b2,o2+j,none⟩=some (.int .i64 (d2:Int))/\W''.cell? ⟨w.heap.size+1,0,none⟩=some (.int .i64 0)/\W''.frozen? ⟨w.heap.size+1,0,none⟩=false)/\Below w.heap.size w W'',?_,?_,?_⟩;·exact((nO _ _ _).and ((nO _ _ _).and (jV _ _ _))).and (kY (Nat.le_refl _) (by omega))
   ·exact⟨⟨hc0,hc2,hc1,hf1⟩,hbW⟩
   ·rintro W'' hxl Z5 ⟨⟨x0,x1,x2,x3⟩,hbW2⟩;have HSZ:=Hd Z5;clear hxl Z5 hc0 hc1 hf1 hc2;by_cases h1:d1<d2
    ·have HE:=Hd (pI (show x<y by rw[<-P.out.2.2.1,<-P.out.2.2.2.1];exact uJ P.out.2.2.2.2.1 (P.out.1.trans P.out.2.1.symm) L.out.1 L.out.2.1 L.out.2.2.2 h1));have hq1:decide ((d1:Int)<(d2:Int))=true:=by simpa using h1
     exact adK
    have hq1:decide ((d1:Int)<(d2:Int))=false:=by simpa using h1
    by_cases h2:d2<d1
    ·have HE:=Hd (pJ (show y<x by rw[<-P.out.2.2.1,<-P.out.2.2.2.1];exact uJ P.out.2.2.2.2.2 (P.out.2.1.trans P.out.1.symm) L.out.2.1 L.out.1 L.out.2.2.2.symm h2));have hq2:decide ((d2:Int)<(d1:Int))=true:=by simpa using h2
     exact adK
    have hq2:decide ((d2:Int)<(d1:Int))=false:=by simpa using h2
    have hdd:d1=d2:=by omega
    have hr3:a.drop j=b.drop j:=by rw[drop_cons L.out.1,drop_cons L.out.2.1,L.out.2.2.2,hdd]
    have HR3:=Hd hr3;clear hr3 hdd;gi_wp2;exact⟨bn.refl _ _ _,⟨⟨j,by omega,L.out.2.2.1,HR3.out⟩,hbW2⟩,x0,x2,x3⟩
  case done=>rintro D W hD ⟨⟨⟨k,hk,hrest,hdr⟩,hbW⟩,hc0,hc1,hf1⟩ hdef;obtain rfl:=Ib hrest;rw[List.drop_zero,List.drop_zero]at hdr;have HE:=Hd (uM (show x=y by rw[<-P.out.2.2.1,<-P.out.2.2.2.1,hdr]));clear hrest hdr;gi_wp2;refine⟨by simp,.inl ⟨_,_,rfl,run_takeDeferred (fA hdef),?_⟩⟩;refine⟨.int .i64 0,by simp[results,go_sem,qg (cZ hc1) (fA hdef)],jL ?_,nV (hbW.setCell (p:=⟨w.heap.size+1,0,none⟩) (by simp) _) (by omega) (Nat.le_refl _)⟩;exact HE.out.symm.trans HZ.out
  case stop=>rintro D j W hD ⟨⟨rfl,hbW⟩,hc1,hf1⟩ hdef;gi_wp2;refine⟨by simp,.inl ⟨_,_,rfl,run_takeDeferred (by assumption),?_⟩⟩;exact⟨.int .i64 z,by simp[results,go_sem,qg hc1 hdef],rfl,nV hbW (by omega) (Nat.le_refl _)⟩
 ·by_cases hlt:n<m;·have HE:=Hd (pI (show x<y by rw[<-v1,<-v2];exact rF g1 t2 (by omega)));exact adL
  have HE:=Hd (pJ (show y<x by rw[<-v1,<-v2];exact rF g2 t1 (by omega)));exact adL
theorem qL(n:Int):bits .and .i64 n 1073741823=n% (BB:Int):=by
 have hm:(BitVec.ofInt 64 1073741823).toNat=2^30-1:=by decide
 have key:(BitVec.ofInt 64 n &&& BitVec.ofInt 64 1073741823).toNat=(n% ((2^64:Nat):Int)).toNat%2^30:=by rw[BitVec.toNat_and,BitVec.toNat_ofInt,hm,Nat.and_two_pow_sub_one_eq_mod]
 show IntKind.i64.wrap ((BitVec.ofInt 64 n &&& BitVec.ofInt 64 1073741823).toNat:Nat)=n%1073741824;rw[key,IntKind.wrap_i64];omega
theorem V6:(1073741824:Int)=(BB:Int):=rfl
theorem Y3(hk:ms.length=k)(hn:k<n)(m:Nat):(ms++List.replicate (n-k) 0).set k m=(ms++ [m])++List.replicate (n-(k+1)) 0:=by subst hk;rw[List.set_append_right _ _ (Nat.le_refl _),Nat.sub_self];obtain⟨j,hj⟩:∃j,n-ms.length=j+1:=⟨n-ms.length-1,by omega⟩;rw[hj,List.replicate_succ,List.set_cons_zero,show n-(ms.length+1)=j by omega];simp
theorem OO{x:Int}(hx:F[k]?=some x):aY (F.drop k) o=(((x+o)% (BB:Int)).toNat::(aY (F.drop (k+1)) ((x+o)/(BB:Int))).1,(aY (F.drop (k+1)) ((x+o)/(BB:Int))).2):=by
 have hk:k<F.length:=(List.getElem?_eq_some_iff.1 hx).1;have:F.drop k=x::F.drop (k+1):=by rw[List.drop_eq_getElem_cons hk];congr 1;exact(List.getElem?_eq_some_iff.1 hx).2
 rw[this,aY]
def rY(F:List Int)(k:Nat)(ms:List Nat)(o:Int):Prop:=aY F 0=(ms++(aY (F.drop k) o).1,(aY (F.drop k) o).2)/\ms.length=k/\Good ms
theorem rY.start(F:List Int):rY F 0 [] 0:=⟨rfl,rfl,tu⟩
theorem rY.step{x:Int}(h:rY F k ms o)(hx:F[k]?=some x):rY F (k+1) (ms++ [((x+o)% (BB:Int)).toNat]) ((x+o)/(BB:Int)):=by
 obtain⟨h1,h2,h3⟩:=h;refine⟨?_,by simp[h2],?_⟩;·rw[h1,OO hx];simp
 have a:=Int.emod_nonneg (x+o) (show(BB:Int)≠0 by decide);have b:=Int.emod_lt_of_pos (x+o) Qv;exact zu h3 (by omega)
theorem rY.done(h:rY F F.length ms o):(aY F 0).1=ms:=by obtain⟨h1,-,-⟩:=h;rw[h1,List.drop_length];simp[aY]
theorem pK{f:Nat->Int}{caps:Array Value}(n:Nat)(hn:n<=100000)(w:World)(eg:∀args w,(callFunc g args).run prog w=.ok (.enter g args) w)
 (hf:∀i,i<n-> -4611686018427387904<=f i/\f i<=4611686018427387904)
 (hs:∀W (i:Nat),i<n->Below w.heap.size w W->Calls prog g (#[.int .i64 (i:Int)]++caps) W (fun e W'=>e=.returned (.int .i64 (f i))/\Below W.heap.size W W')):
 Calls prog 194 #[.int .i64 (n:Int),.func (.func g) #[] caps] w fun e w'=>∃b k,e=.returned (.slice (some ⟨b,0,none⟩) k n)/\Row w' b (ints (aY ((List.range n).map f) 0).1)/\w.heap.size<=b/\k<=n/\(aY ((List.range n).map f) 0).1.take k=bC (val (aY ((List.range n).map f) 0).1)/\Below w.heap.size w w':=by
 refine wid ?_;have HF:=Hd hf;have HS:=Hd hs;have hmk:=qR (t:=125) underlying125 n (by omega);obtain⟨F,hF⟩:=aC ((List.range n).map f);have hFl:F.length=n:=by rw[<-hF];simp
 have hFx:∀i,i<n->F[i]?=some (f i):=fun i hi=>by rw[<-hF];simp[hi]
 have XR:=Hd hFx;rw[hF];clear hf hs hF hFx;obtain⟨W1,hW1⟩:=aC (w.alloc (.cells ((List.replicate n (0:Int)).map (Value.int .i64)).toArray 3));replace hmk:=hmk w;rw[hW1]at hmk;have r1:Row W1 w.heap.size (ints (List.replicate n 0)):=by rw[<-hW1,<-lH];exact Row.new n w
 have b1:Below w.heap.size w W1:=by rw[<-hW1];exact bel
 have R1:=Hd r1;have B1:=Hd b1;clear r1 b1 hW1;refine ent func194 rfl ntmps194 ?_;gi_wp2;gi_loopw[6,13] (fun o i wr=>∃(k:Nat) (ms:List Nat) (oo:Int),k<=n/\o=.int .i64 oo/\i=.int .i64 k/\ -8589934592<=oo/\oo<=8589934592/\Hid (rY F k ms oo)/\Hid (Row wr w.heap.size (ints (ms++List.replicate (n-k) 0)))/\Below w.heap.size w wr) (fun _ i _=>n-(intOf i).toNat);case atStart=>exact⟨0, [],0,Nat.zero_le _,rfl,rfl,by omega,by omega,rY.start F,by simpa using R1,B1.out⟩
 case round=>
  obtain⟨k,ms,oo,hk,rfl,rfl,ho1,ho2,hc,hr,hb⟩:=hrel;by_cases hlt:k<n
  ·have hfk:=HF.out k hlt;generalize hfe:f k=x at*;have HFE:=Hd hfe
   have hk0:(ints (ms++List.replicate (n-k) 0))[k]?=some 0:=by
    have:(ms++List.replicate (n-k) 0)[k]?=some 0:=by rw[List.getElem?_append_right (by rw[hc.out.2.1];exact Nat.le_refl _),hc.out.2.1,Nat.sub_self];obtain⟨j,hj⟩:∃j,n-k=j+1:=⟨n-k-1,by omega⟩;rw[hj];rfl
    show((ms++List.replicate (n-k) 0).map _)[k]?=_;rw[List.getElem?_map,this];rfl
   have HK0:=Hd hk0;have k0:IntKind.i64.wrap (x+oo)=x+oo:=by rw[IntKind.wrap_i64];omega
   have k1:=qL (x+oo);clear hk0 hfe;gi_wp2_with (refine⟨trivial,?_⟩;refine Cn (HS.out wr k hlt hb) ?_;rintro e w1 ⟨rfl,hb1⟩;have hr1:=hr.out.go hb1 hr.out.lt;have e1:=hr1.cell HK0.out;have e2:=hr1.free k;have HR1:=Hd hr1;have HB1:=Hd (hb.trans (hb1.mono hb.size));clear hr1 hb1;rw[HFE.out])
   have hm0:=Int.emod_nonneg (x+oo) (show(BB:Int)≠0 by decide);have hst:=hc.out.step (XR.out k hlt);rw[HFE.out]at hst;have hrow:=HR1.out.put k (((x+oo)% (BB:Int)).toNat:Int);rw[ints_set,Y3 hc.out.2.1 hlt,Int.toNat_of_nonneg hm0]at hrow;refine⟨⟨k+1,ms++ [((x+oo)% (BB:Int)).toNat],(x+oo)/1073741824,by omega,rfl,by go_num,by omega,by omega,hst,hrow,HB1.out.setCell (p:=⟨w.heap.size,k,none⟩) (Nat.le_refl _) _⟩,by simp[intOf];omega⟩
  ·have hkn:k=n:=by omega
   subst hkn;have hdn:=hc.out;rw[<-hFl]at hdn;have hfin:=rY.done hdn;rw[Nat.sub_self,List.replicate_zero,List.append_nil,<-hfin]at hr;have hgd:=(ji F 0).1;have hln:=(ji F 0).2;rw[hFl]at hln;obtain⟨L,hL⟩:=aC (aY F 0).1;rw[hL]at hr hgd hln;have HL:=Hd hL;clear hL;have hsl:Sl Int wr [] (some ⟨w.heap.size,0,none⟩) k k (ints L):=hr.out.sl (by simp) (by simp[ints,hln]) (by omega) (fU hgd);have HG:=Hd2 hsl hgd;have hsz:=hb.size;clear hsl hgd hdn hfin hc;gi_wp2_with (refine Cl 113 (jw _ _ _ L _ HG.out.1 HG.out.2) ?_;rintro e w2 ⟨q,rfl,hq,ht,hb2⟩;have HT:=fB ht hq hb2;clear ht hq hb2)
   go_ret;rw[HL.out];exact⟨w.heap.size,q,rfl,hr.out.go HT.out.2.2 hr.out.lt,Nat.le_refl _,HT.out.2.1,HT.out.1,hb.trans (HT.out.2.2.mono hsz)⟩
theorem LP{x y:List Nat}(i:Nat)(w:World)(h1:w.cell? ⟨b1,0,none⟩=some (.slice A n c))(h2:w.cell? ⟨b2,0,none⟩=some (.slice B m d))
 (hx:Sl Int w [] A n c (ints x)) (hy:Sl Int w [] B m d (ints y)) (gx:Good x) (gy:Good y):
 CB 197 #[.int .i64 (i:Int),.pointer (some ⟨b1,0,none⟩),.pointer (some ⟨b2,0,none⟩)] (.int .i64 ((aB x i:Int)+(aB y i:Int))) w:=by
 refine wid ?_;have H:=Hd hx;have G:=Hd hy;have HG:=Hd2 gx gy;have q1:=fF gx i;have q2:=fF gy i;have v1:=ah h1;have v2:=ah h2;have k0:IntKind.i64.wrap ((aB x i:Int)+(aB y i:Int))=(aB x i:Int)+(aB y i:Int):=by have:=g_ q1;have:=g_ q2;rw[IntKind.wrap_i64];omega
 clear hx hy gx gy q1 q2 h1 h2;refine ent func197 rfl ntmps197 ?_;gi_wp2;refine ak [] [0,1,3,4,2,5,6,7] (by kernel_rfl) (by kernel_rfl) ?_;refine eH ?_;refine aH fun K hK=>aA rfl rfl wy fun K' hK'=>?_;gi_wp2;refine Cm (BI A n c x i _ (H.out.go (by exact bel)) HG.out.1) ?_;rintro e w1 ⟨rfl,rfl⟩;refine hK' _ _ ⟨?_,hK _ _ ?_⟩;clear hK' K' hK K;·exact Keeps.refl _ _
 refine lit ?_;refine eH ?_;refine aH fun K hK=>aA rfl rfl wy fun K' hK'=>?_;gi_wp2;refine Cm (BI B m d y i _ (G.out.go (by exact bel)) HG.out.2) ?_;rintro e w1 ⟨rfl,rfl⟩;refine hK' _ _ ⟨?_,hK _ _ ?_⟩;clear hK' K' hK K;·exact Keeps.refl _ _
 refine lit ?_;refine eH ?_;refine aK ?_;refine lit ?_;gi_wp2;go_ret;exact⟨rfl,by exact bel⟩
theorem V_{x y:List Nat}(i:Nat)(hi:i<n)(w:World)(h1:w.cell? ⟨b1,0,none⟩=some (.slice A n c))(h2:w.cell? ⟨b2,0,none⟩=some (.slice B m d))
 (hx:Sl Int w [] A n c (ints x)) (hy:Sl Int w [] B m d (ints y)) (gx:Good x) (gy:Good y):
 CB 198 #[.int .i64 (i:Int),.pointer (some ⟨b1,0,none⟩),.pointer (some ⟨b2,0,none⟩)] (.int .i64 ((aB x i:Int)-(aB y i:Int))) w:=by
 refine wid ?_;have hs:=hx.small;obtain⟨b,o,dd,rfl,hc,hd,-,hdd⟩:=hx.mG gx hi;have HD:=Hd hdd;have G:=Hd hy;have HG:=Hd gy;have q2:=fF gy i;have v1:=ah h1;have v2:=ah h2;have v3:=ah hc;have k0:IntKind.i64.wrap ((dd:Int)-(aB y i:Int))=(dd:Int)-(aB y i:Int):=by have:=g_ q2;rw[IntKind.wrap_i64];omega
 rw[HD.out];clear hx hy gx gy q2 h1 h2 hc hdd;refine ent func198 rfl ntmps198 ?_;gi_wp2;refine ak [] [0,1,2,3,4,5,6,7,8] (by kernel_rfl) (by kernel_rfl) ?_;refine eH ?_;refine aH fun K hK=>aA rfl rfl wy fun K' hK'=>?_;gi_wp2;refine Cm (BI B m d y i _ (G.out.go (by exact bel)) HG.out) ?_;rintro e w1 ⟨rfl,rfl⟩;refine hK' _ _ ⟨?_,hK _ _ ?_⟩;clear hK' K' hK K;·exact Keeps.refl _ _
 refine lit ?_;refine eH ?_;refine aK ?_;refine lit ?_;gi_wp2;go_ret;exact⟨rfl,by exact bel⟩
theorem OQ{x:List Nat}(i:Nat)(w:World)(h1:w.cell? ⟨b1,0,none⟩=some (.slice A n c))(h2:w.cell? ⟨b2,0,none⟩=some (.int .i64 (s:Int)))(hs:s<=29)
 (hx:Sl Int w [] A n c (ints x)) (gx:Good x):
 CB 195 #[.int .i64 (i:Int),.pointer (some ⟨b1,0,none⟩),.pointer (some ⟨b2,0,none⟩)] (.int .i64 ((aB x i:Int)*((2^s:Nat):Int))) w:=by
 refine wid ?_;have H:=Hd hx;have HG:=Hd gx;have q2:=g_ (fF gx i);have hw:IntKind.i64.wrap ((aB x i:Int)*2^s)=(aB x i:Int)*((2^s:Nat):Int):=by
  have h3:2^s<=2^29:=Nat.pow_le_pow_right (by decide) hs;have h4:aB x i*2^s<=1073741823*2^29:=Nat.mul_le_mul q2 h3;have h5:(aB x i:Int)*2^s=((aB x i*2^s:Nat):Int):=by simp
  rw[h5,IntKind.wrap_i64,Int.natCast_mul];rw[<-Int.natCast_mul];omega
 have HW:=Hd hw;have v1:=ah h1;have v2:=ah h2;clear hx gx h1 h2 hw;refine ent func195 rfl ntmps195 ?_;gi_wp2;refine ak [] [0,1,3,2,4,5] (by kernel_rfl) (by kernel_rfl) ?_;refine eH ?_;refine aH fun K hK=>aA rfl rfl wy fun K' hK'=>?_;gi_wp2;refine Cm (BI A n c x i _ (H.out.go (by exact bel)) HG.out) ?_;rintro e w1 ⟨rfl,rfl⟩;refine hK' _ _ ⟨?_,hK _ _ ?_⟩;clear hK' K' hK K;·exact Keeps.refl _ _
 refine lit ?_;refine eH ?_;refine aK ?_;refine lit ?_;gi_wp2;go_ret;exact⟨jL HW.out,by exact bel⟩
theorem Row.dr{w':World}{b v:Nat}{L:List Nat}(h:Row w' b (ints L))(hb:w.heap.size<=b)(hM:b_ M w)(hk:k<=n)(hl:L.length=n)(hn:n<=1000000)(hg:Good L)(ht:L.take k=bC v)(hB:Below w.heap.size w w'):DR w M v (.returned (.slice (some ⟨b,0,none⟩) k n)) w':=by
 refine⟨_,k,n,rfl,?_,hB⟩;have hs:=h.sl (M:=M) (fun e=>by have:=hM _ e;omega) (n:=n) (by simp[ints,hl]) hn (fU hg);have:=hs.nY hk
 rwa [eG,ht]at this
theorem uN(n:Nat)(f:Nat->Int):(aY ((List.range n).map f) 0).1.length=n/\Good (aY ((List.range n).map f) 0).1:=by obtain⟨h1,h2⟩:=ji ((List.range n).map f) 0;exact⟨by rw[h2];simp,h1⟩
theorem YE(hM:b_ M w)(hx:Sl Int w M A n c (ints (bC x)))(hy:Sl Int w M B m d (ints (bC y)))(hn:n<=5000)(hm:m<=5000)(hnm:n<m):
 Calls prog 164 #[.slice A n c,.slice B m d] w (DR w M (x+y)):=by
 refine wid ?_;have H:=Hd (hx.less (M':= []) (by simp));have G:=Hd (hy.less (M':= []) (by simp));have l1:=hx.eu;have l2:=hy.eu;have hmf:∀(fn:Fn) (first cap:Array Value) (w:World),(Instr.makeFunc fn first cap).run prog w=.ok (.func fn first cap) w:=fun _ _ _ _=>rfl;have hbd:∀i,i<m+1-> -4611686018427387904<=(aB (bC x) i:Int)+(aB (bC y) i:Int)/\(aB (bC x) i:Int)+(aB (bC y) i:Int)<=4611686018427387904:=fun i _=>by have:=g_ (fF (aO x) i);have:=g_ (fF (aO y) i);omega
 have Nu:=Hd hbd;have hfin:=DL (aO x) (aO y);rw[l1,l2,show max n m=m by omega]at hfin;have OT:=Hd hfin;clear hx hy hbd hfin l1 l2;refine ent func164 rfl ntmps164 ?_;gi_wp2_with (refine⟨trivial,?_⟩;gi_at_call 194;rw[show(m:Int)+1=((m+1:Nat):Int)from by omega];refine Cn (pK (f:=fun i=>(aB (bC x) i:Int)+(aB (bC y) i:Int)) (g:=197) (m+1) (by omega) _ (enters_of func197 (by kernel_rfl) rfl) Nu.out (fun W i hi hb=>?_)) ?_)
 ·exact adi
 ·rintro e w1 ⟨b,k,rfl,hr,hb,hk,ht,hB⟩;have hbW:Below w.heap.size w w1:=(((Below.refl w.heap.size w).alloc (Nat.le_refl _) _).alloc (by simp) _).trans (hB.mono (by simp;omega));have hb':w.heap.size<=b:=by simp at hb;omega
  obtain⟨cl,cg⟩:=uN (m+1) (fun i=>(aB (bC x) i:Int)+(aB (bC y) i:Int));have hv:bC (val (aY ((List.range (m+1)).map fun i=>(aB (bC x) i:Int)+(aB (bC y) i:Int)) 0).1)=bC (x+y):=by have:=OT.out;rw[bI,bI]at this;exact this
  exact adG
theorem YF(hM:b_ M w)(hx:Sl Int w M A n c (ints (bC x)))(hy:Sl Int w M B m d (ints (bC y)))(hn:n<=5000)(hm:m<=5000)(hnm:¬n<m):
 Calls prog 164 #[.slice A n c,.slice B m d] w (DR w M (x+y)):=by
 refine wid ?_;have H:=Hd (hx.less (M':= []) (by simp));have G:=Hd (hy.less (M':= []) (by simp));have l1:=hx.eu;have l2:=hy.eu;have hmf:∀(fn:Fn) (first cap:Array Value) (w:World),(Instr.makeFunc fn first cap).run prog w=.ok (.func fn first cap) w:=fun _ _ _ _=>rfl;have hbd:∀i,i<n+1-> -4611686018427387904<=(aB (bC x) i:Int)+(aB (bC y) i:Int)/\(aB (bC x) i:Int)+(aB (bC y) i:Int)<=4611686018427387904:=fun i _=>by have:=g_ (fF (aO x) i);have:=g_ (fF (aO y) i);omega
 have Nu:=Hd hbd;have hfin:=DL (aO x) (aO y);rw[l1,l2,show max n m=n by omega]at hfin;have OT:=Hd hfin;clear hx hy hbd hfin l1 l2;refine ent func164 rfl ntmps164 ?_;gi_wp2_with (refine⟨trivial,?_⟩;gi_at_call 194;rw[show(n:Int)+1=((n+1:Nat):Int)from by omega];refine Cn (pK (f:=fun i=>(aB (bC x) i:Int)+(aB (bC y) i:Int)) (g:=197) (n+1) (by omega) _ (enters_of func197 (by kernel_rfl) rfl) Nu.out (fun W i hi hb=>?_)) ?_)
 ·exact adi
 ·rintro e w1 ⟨b,k,rfl,hr,hb,hk,ht,hB⟩;have hbW:Below w.heap.size w w1:=(((Below.refl w.heap.size w).alloc (Nat.le_refl _) _).alloc (by simp) _).trans (hB.mono (by simp;omega));have hb':w.heap.size<=b:=by simp at hb;omega
  obtain⟨cl,cg⟩:=uN (n+1) (fun i=>(aB (bC x) i:Int)+(aB (bC y) i:Int));have hv:bC (val (aY ((List.range (n+1)).map fun i=>(aB (bC x) i:Int)+(aB (bC y) i:Int)) 0).1)=bC (x+y):=by have:=OT.out;rw[bI,bI]at this;exact this
  exact adG
theorem LQ(hM:b_ M w)(hx:Sl Int w M A n c (ints (bC x)))(hy:Sl Int w M B m d (ints (bC y)))(hn:n<=5000)(hm:m<=5000):
 Calls prog 164 #[.slice A n c,.slice B m d] w (DR w M (x+y)):=by
 by_cases h:n<m;·exact YE hM hx hy hn hm h
 ·exact YF hM hx hy hn hm h
theorem LW(hM:b_ M w)(hx:Sl Int w M A n c (ints (bC x)))(hy:Sl Int w M B m d (ints (bC y)))(hn:n<=5000)(hyx:y<=x):
 Calls prog 165 #[.slice A n c,.slice B m d] w (DR w M (x-y)):=by
 refine wid ?_;have H:=Hd (hx.less (M':= []) (by simp));have G:=Hd (hy.less (M':= []) (by simp));have l1:=hx.eu;have l2:=hy.eu;have hmf:∀(fn:Fn) (first cap:Array Value) (w:World),(Instr.makeFunc fn first cap).run prog w=.ok (.func fn first cap) w:=fun _ _ _ _=>rfl;have hbd:∀i,i<n-> -4611686018427387904<=(aB (bC x) i:Int)-(aB (bC y) i:Int)/\(aB (bC x) i:Int)-(aB (bC y) i:Int)<=4611686018427387904:=fun i _=>by have:=g_ (fF (aO x) i);have:=g_ (fF (aO y) i);omega
 have Nu:=Hd hbd;have hfin:=Oz (aO x) (show val (bC y)<=val (bC x) by rw[bI,bI];exact hyx) (kR hyx);rw[l1]at hfin;have OT:=Hd hfin;clear hx hy hbd hfin l1 l2;refine ent func165 rfl ntmps165 ?_;gi_wp2_with (refine Cl 194 (pK (f:=fun i=>(aB (bC x) i:Int)-(aB (bC y) i:Int)) (g:=198) n (by omega) _ (enters_of func198 (by kernel_rfl) rfl) Nu.out (fun W i hi hb=>?_)) ?_)
 ·have hbW:Below w.heap.size w W:=(((Below.refl w.heap.size w).alloc (Nat.le_refl _) _).alloc (by simp) _).trans (hb.mono (by simp;omega));refine V_ (A:=A) (B:=B) (n:=n) (c:=c) (m:=m) (d:=d) i hi W ?_ ?_ (H.out.keep (Keeps.of_below hbW [])) (G.out.keep (Keeps.of_below hbW [])) (aO x) (aO y);·exact adR
  exact adT
 ·rintro e w1 ⟨b,k,rfl,hr,hb,hk,ht,hB⟩;have hbW:Below w.heap.size w w1:=(((Below.refl w.heap.size w).alloc (Nat.le_refl _) _).alloc (by simp) _).trans (hB.mono (by simp;omega));have hb':w.heap.size<=b:=by simp at hb;omega
  obtain⟨cl,cg⟩:=uN n (fun i=>(aB (bC x) i:Int)-(aB (bC y) i:Int));have hv:bC (val (aY ((List.range n).map fun i=>(aB (bC x) i:Int)-(aB (bC y) i:Int)) 0).1)=bC (x-y):=by have:=OT.out;rw[bI,bI]at this;exact this
  exact adG
def aaN(w:World)(n v:Nat)(e:Ending)(w':World):Prop:=∃b k L,e=.returned (.slice (some ⟨b,0,none⟩) k n)/\Row w' b (ints L)/\w.heap.size<=b/\k<=n/\L.length=n/\Good L/\L.take k=bC v/\Below w.heap.size w w'
theorem OU(hs:s<=29):2^s<=BB:=Nat.le_trans (Nat.pow_le_pow_right (by decide) hs) (by decide)
theorem Ic(hx:Sl Int w M A n c (ints (bC x)))(hn:n<=5000)(hs:s<=29):
 Calls prog 162 #[.slice A n c,.int .i64 (s:Int)] w (aaN w (n+1) (x*2^s)):=by
 refine wid ?_;have H:=Hd (hx.less (M':= []) (by simp));have l1:=hx.eu;have hmf:∀(fn:Fn) (first cap:Array Value) (w:World),(Instr.makeFunc fn first cap).run prog w=.ok (.func fn first cap) w:=fun _ _ _ _=>rfl;have hbd:∀i,i<n+1-> -4611686018427387904<=(aB (bC x) i:Int)*((2^s:Nat):Int)/\(aB (bC x) i:Int)*((2^s:Nat):Int)<=4611686018427387904:=fun i _=>by have q:=g_ (fF (aO x) i);have h3:2^s<=2^29:=Nat.pow_le_pow_right (by decide) hs;have h4:aB (bC x) i*2^s<=1073741823*2^29:=Nat.mul_le_mul q h3;rw[<-Int.natCast_mul];omega
 have Nu:=Hd hbd;have hfin:=Jq (aO x) (OU hs);rw[l1]at hfin;have OT:=Hd hfin;clear hx hbd hfin l1;refine ent func162 rfl ntmps162 ?_;gi_wp2_with (refine⟨trivial,?_⟩;gi_at_call 194;rw[show(n:Int)+1=((n+1:Nat):Int)from by omega];refine Cn (pK (f:=fun i=>(aB (bC x) i:Int)*((2^s:Nat):Int)) (g:=195) (n+1) (by omega) _ (enters_of func195 (by kernel_rfl) rfl) Nu.out (fun W i hi hb=>?_)) ?_)
 ·have hbW:Below w.heap.size w W:=(((Below.refl w.heap.size w).alloc (Nat.le_refl _) _).alloc (by simp) _).trans (hb.mono (by simp;omega));refine OQ (A:=A) (n:=n) (c:=c) i W ?_ ?_ hs (H.out.keep (Keeps.of_below hbW [])) (aO x);·exact adR
  exact adT
 ·rintro e w1 ⟨b,k,rfl,hr,hb,hk,ht,hB⟩;have hbW:Below w.heap.size w w1:=(((Below.refl w.heap.size w).alloc (Nat.le_refl _) _).alloc (by simp) _).trans (hB.mono (by simp;omega));have hb':w.heap.size<=b:=by simp at hb;omega
  obtain⟨cl,cg⟩:=uN (n+1) (fun i=>(aB (bC x) i:Int)*((2^s:Nat):Int));have hv:bC (val (aY ((List.range (n+1)).map fun i=>(aB (bC x) i:Int)*((2^s:Nat):Int)) 0).1)=bC (x*2^s):=by have:=OT.out;rw[bI]at this;exact this
  rw[hv]at ht;have hD:aaN w (n+1) (x*2^s) (.returned (.slice (some ⟨b,0,none⟩) k (n+1))) w1:=⟨b,k,_,rfl,hr,hb',hk,cl,cg,ht,hbW⟩;exact afs
end
theorem Ju:∀{l:List Nat}{j x:Nat}(_:l[j]?=some x) (d:Nat),val (l.set j d)+BB^j*x=val l+BB^j*d
 | [],j,x,h,d=>by simp at h
 |y::r,0,x,h,d=>by simp at h;subst h;simp only[List.set_cons_zero,val,Nat.pow_zero,Nat.one_mul];omega
 |y::r,j+1,x,h,d=>by
  have ih:=Ju (l:=r) (j:=j) (x:=x) (by simpa using h) d;simp only[List.set_cons_succ,val];have e:BB*(val (r.set j d)+BB^j*x)=BB*(val r+BB^j*d):=by rw[ih]
  rw[Nat.mul_add,Nat.mul_add,<-Nat.mul_assoc,<-Nat.mul_assoc,Nat.mul_comm BB (BB^j),<-Nat.pow_succ,show j.succ=j+1 from rfl]at e;omega
theorem D9(h:Good l)(j:Nat)(hd:d<BB):Good (l.set j d):=by
 intro x hx;rcases List.mem_or_eq_of_mem_set hx with hx|rfl;·exact h x hx
 exact hd
theorem l7(h:l[k]?=some x):val (l.take (k+1))=val (l.take k)+BB^k*x:=by have hk:k<l.length:=(List.getElem?_eq_some_iff.1 h).1;rw[List.take_add_one,h,Option.toList_some,val_append,List.length_take,Nat.min_eq_left (by omega)];simp[val]
structure yB(a b:List Nat)(i:Nat)(R:List Nat):Prop where
 eq:val R=val (a.take i)*val b
 good:Good R
 len:R.length=a.length+b.length
 top:∀j,i+b.length<=j->j<R.length->R[j]?=some 0
structure Fz(a b:List Nat)(i x k over:Nat)(R:List Nat):Prop where
 eq:val R+BB^(i+k)*over=val (a.take i)*val b+BB^i*(x*val (b.take k))
 good:Good R
 len:R.length=a.length+b.length
 top:∀j,i+b.length<=j->j<R.length->R[j]?=some 0
 lt:over<BB
theorem yB.start(a b:List Nat):yB a b 0 (List.replicate (a.length+b.length) 0):=by
 refine⟨?_,?_,by simp,?_⟩;·rw[zq];simp[val]
 ·intro d hd;rw[List.eq_of_mem_replicate hd];exact eX
 intro j _ hj;rw[List.length_replicate]at hj;simp[hj]
theorem yB.row(h:yB a b i R)(x:Nat):Fz a b i x 0 0 R:=⟨by rw[h.eq];simp[val],h.good,h.len,h.top,eX⟩
theorem yB.skip(h:yB a b i R)(ha:a[i]?=some 0):yB a b (i+1) R:=⟨by rw[h.eq,l7 ha];simp,h.good,h.len,fun j hj hl=>h.top j (by omega) hl⟩
theorem Fz.small(h:Fz a b i x k over R)(hx:x<BB)(hr:R[i+k]?=some r)(hy:b[k]?=some y)(hb:Good b):r+x*y+over<=1152921504606846975/\r<=1073741823/\y<=1073741823/\over<=1073741823/\x*y<=1152921502459363329/\(r+x*y+over)/BB<BB:=by have h1:r<=1073741823:=Nat.le_of_lt_succ (h.good r (List.mem_of_getElem? hr));have h2:y<=1073741823:=Nat.le_of_lt_succ (hb y (List.mem_of_getElem? hy));have h3:over<=1073741823:=Nat.le_of_lt_succ h.lt;have h4:x<=1073741823:=Nat.le_of_lt_succ hx;have h5:x*y<=1073741823*1073741823:=Nat.mul_le_mul h4 h2;refine⟨by omega,h1,h2,h3,by omega,?_⟩;refine(Nat.div_lt_iff_lt_mul eX).2 ?_;show _<1073741824*1073741824;omega
theorem Fz.step(h:Fz a b i x k over R)(hx:x<BB)(hr:R[i+k]?=some r)(hy:b[k]?=some y)(hb:Good b):
 Fz a b i x (k+1) ((r+x*y+over)/BB) (R.set (i+k) ((r+x*y+over)%BB)):=by
 have hlt:=(h.small hx hr hy hb).2.2.2.2.2;have hk:k<b.length:=(List.getElem?_eq_some_iff.1 hy).1;refine⟨?_,D9 h.good _ (Nat.mod_lt _ eX),by rw[List.length_set];exact h.len,fun j hj hl=>?_,hlt⟩
 ·have e1:=Ju hr ((r+x*y+over)%BB);have e2:=h.eq;have e3:=Nat.mod_add_div (r+x*y+over) BB;rw[l7 hy];rw[<-Nat.add_assoc i k 1,Nat.pow_succ];generalize (r+x*y+over)%BB=m at*;generalize (r+x*y+over)/BB=q at*
  have e4:BB^(i+k)*(m+BB*q)=BB^(i+k)*(r+x*y+over):=by rw[e3]
  rw[Nat.mul_add,<-Nat.mul_assoc,Nat.mul_add,Nat.mul_add]at e4;have e5:BB^i*(x*(val (b.take k)+BB^k*y))=BB^i*(x*val (b.take k))+BB^(i+k)*(x*y):=by rw[Nat.mul_add,Nat.mul_add,Nat.pow_add,Nat.mul_assoc];congr 2;rw[<-Nat.mul_assoc,<-Nat.mul_assoc,Nat.mul_comm x]
  omega
 ·rw[List.getElem?_set_ne (by omega)];exact h.top j hj (by simpa using hl)
theorem Fz.done(h:Fz a b i x b.length over R)(ha:a[i]?=some x):yB a b (i+1) (R.set (i+b.length) over):=by
 have hi:i<a.length:=(List.getElem?_eq_some_iff.1 ha).1;have h0:R[i+b.length]?=some 0:=h.top _ (Nat.le_refl _) (by rw[h.len];omega);refine⟨?_,D9 h.good _ h.lt,by rw[List.length_set];exact h.len,fun j hj hl=>?_⟩;·have e1:=Ju h0 over;have e2:=h.eq;rw[List.take_length]at e2;rw[l7 ha,Nat.add_mul];have e3:BB^i*(x*val b)=BB^i*x*val b:=(Nat.mul_assoc ..).symm;omega
 rw[List.getElem?_set_ne (by omega)];exact h.top j (by omega) (by simpa using hl)
theorem yB.done(h:yB a b a.length R):val R=val a*val b:=by rw[h.eq,List.take_length]
section
open Go.RowKit Go.Shelf
attribute [local go_sem] Oper.semAt_some
theorem jK(h:l[k]?=some d):(ints l)[k]?=some (d:Int):=by show(l.map _)[k]?=_;rw[List.getElem?_map,h];rfl
theorem Wh(hM:b_ M w)(hx:Sl Int w M A n c (ints (bC x)))(hy:Sl Int w M B m d (ints (bC y)))(hn:n<=5000)(hm:m<=5000):
 Calls prog 163 #[.slice A n c,.slice B m d] w (DR w M (x*y)):=by
 have H:=Hd (hx.less (M':= []) (by simp));have G:=Hd (hy.less (M':= []) (by simp));have HM:=Hd hM;have l1:=hx.eu;have l2:=hy.eu;have g1:=aO x;have g2:=aO y;have hpr:val (bC x)*val (bC y)=x*y:=by rw[bI,bI]
 have hmk:=qR (t:=125) underlying125 (n+m) (by omega);obtain⟨W1,hW1⟩:=aC (w.alloc (.cells ((List.replicate (n+m) (0:Int)).map (Value.int .i64)).toArray 3));replace hmk:=hmk w;rw[hW1,show((n+m:Nat):Int)=(n:Int)+(m:Int)from by omega]at hmk;have r1:Row W1 w.heap.size (ints (List.replicate (n+m) 0)):=by rw[<-hW1,<-lH];exact Row.new _ w
 have b1:Below w.heap.size w W1:=by rw[<-hW1];exact bel
 have st:=yB.start (bC x) (bC y);rw[l1,l2]at st;generalize hax:bC x=a at*
 generalize hay:bC y=b at*
 have P:=Hd (And.intro l1 (And.intro l2 (And.intro g1 (And.intro g2 (And.intro hpr (And.intro st (And.intro r1 b1)))))));clear hx hy hM l1 l2 g1 g2 hpr st r1 b1 hW1 hax hay;go_enter func163,ntmps163;go_wp2;go_step3;go_wp2;go_step3;go_wp2;go_loopw[20] (fun i wr=>∃(k:Nat) (R:List Nat),k<=n/\i=.int .i64 k/\Hid (yB a b k R)/\Hid (Row wr w.heap.size (ints R))/\Below w.heap.size w wr) (fun i _=>n-(intOf i).toNat);case atStart=>exact ae8
 case round=>
  obtain⟨i,R,hi,rfl,hI,hR,hb⟩:=hrel;by_cases hlt:i<n
  ·obtain⟨b1,o1,xi,rfl,hc1,hxi,hl1,-⟩:=(H.out.keep (Keeps.of_below hb [])).mG P.out.2.2.1 hlt;have L:=Hd hl1;clear hl1;by_cases h0:xi=0
   ·subst h0;go_wp2;go_roundw;case rel=>exact⟨i+1,R,by omega,by go_num,hI.out.skip L.out,hR.out,hb⟩
    case measure=>simp[intOf];omega
   have h01:((xi:Int)==0)=false:=by simpa using h0
   have hxB:xi<BB:=Hy hxi;go_wp2;go_loopw[8,29] (fun o q wr'=>∃(k over:Nat) (R':List Nat),k<=m/\o=.int .i64 over/\q=.int .i64 k/\Hid (Fz a b i xi k over R')/\Hid (Row wr' w.heap.size (ints R'))/\Below w.heap.size w wr') (fun _ q _=>m-(intOf q).toNat);case atStart=>exact⟨0,0,R,Nat.zero_le _,rfl,rfl,hI.out.row xi,hR.out,hb⟩
   case round=>
    obtain⟨k,over,R',hk,rfl,rfl,hI',hR',hb'⟩:=hrel;by_cases hkm:k<m
    ·obtain⟨b2,o2,y2,rfl,hc2,hy2,hl2,-⟩:=(G.out.keep (Keeps.of_below hb' [])).mG P.out.2.2.2.1 hkm;have hRl:R'.length=n+m:=by rw[hI'.out.len,P.out.1,P.out.2.1]
     obtain⟨r,hr⟩:=dW R' (i+k) (by omega);obtain⟨s1,s2,s3,s4,s5,s6⟩:=hI'.out.small hxB hr hl2 P.out.2.2.2.1;have hc3:wr.cell? ⟨w.heap.size,i+k,none⟩=some (.int .i64 (r:Int)):=hR'.out.cell (jK hr);have hf3:wr.frozen? ⟨w.heap.size,i+k,none⟩=false:=hR'.out.free _;have hstep:=hI'.out.step hxB hr hl2 P.out.2.2.2.1;have hput:=hR'.out.put (i+k) (((r+xi*y2+over)%BB:Nat):Int);rw[ints_set]at hput;have HS:=Hd2 hstep hput;have e0:((xi:Int)*(y2:Int))=((xi*y2:Nat):Int):=(Int.natCast_mul ..).symm;have k0:IntKind.i64.wrap ((i:Int)+(k:Int))=((i+k:Nat):Int):=by rw[IntKind.wrap_i64];omega
     have k1:IntKind.i64.wrap ((xi:Int)*(y2:Int))=((xi*y2:Nat):Int):=by rw[e0,IntKind.wrap_i64];omega
     have k2:IntKind.i64.wrap ((r:Int)+((xi*y2:Nat):Int))=((r+xi*y2:Nat):Int):=by rw[IntKind.wrap_i64];omega
     have k3:IntKind.i64.wrap (((r+xi*y2:Nat):Int)+(over:Int))=((r+xi*y2+over:Nat):Int):=by rw[IntKind.wrap_i64];omega
     have e1:(r:Int)+(xi:Int)*(y2:Int)+(over:Int)=((r+xi*y2+over:Nat):Int):=by simp
     have q1:((r:Int)+(xi:Int)*(y2:Int)+(over:Int))/1073741824=(((r+xi*y2+over)/BB:Nat):Int):=by rw[e1,V6];exact(Int.natCast_ediv _ _).symm
     have q2:bits .and .i64 ((r:Int)+(xi:Int)*(y2:Int)+(over:Int)) 1073741823=(((r+xi*y2+over)%BB:Nat):Int):=by rw[e1,qL];exact(Int.natCast_emod _ _).symm
     have Q:=Hd2 q1 q2;clear hstep hput hr hl2 e0 hRl e1 q1 q2;go_wp2;rw[Q.out.1,Q.out.2];exact⟨⟨k+1,_,_,by omega,rfl,by go_num,HS.out.1,HS.out.2,hb'.setCell (p:=⟨w.heap.size,i+k,none⟩) (Nat.le_refl _) _⟩,by simp[intOf];omega⟩
    ·have Y6:k=m:=by omega
     subst Y6;have hI2:=hI'.out;have hlo:=g_ hI2.lt;have hz:R'[i+k]?=some 0:=hI2.top _ (by rw[P.out.2.1];exact Nat.le_refl _) (by rw[hI2.len,P.out.1,P.out.2.1];omega);have hdone:=hI2;rw[<-P.out.2.1]at hdone;have hdone:=hdone.done L.out;rw[P.out.2.1]at hdone;have hc3:wr.cell? ⟨w.heap.size,i+k,none⟩=some (.int .i64 0):=hR'.out.cell (jK hz);have hf3:wr.frozen? ⟨w.heap.size,i+k,none⟩=false:=hR'.out.free _;have hput:=hR'.out.put (i+k) (over:Int);rw[ints_set]at hput;have HS:=Hd2 hdone hput;have k0:IntKind.i64.wrap ((i:Int)+(k:Int))=((i+k:Nat):Int):=by rw[IntKind.wrap_i64];omega
     clear hdone hput hI2 hz;go_wp2;exact aen
  ·have hin:i=n:=by omega
   subst hin;have hfin:=hI.out;rw[<-P.out.1]at hfin;have hv:=hfin.done;have hg:=hfin.good;have hl:=hfin.len;rw[P.out.2.2.2.2.1]at hv;rw[P.out.1,P.out.2.1]at hl;have Nw:w.heap.size∉M:=fun e=>by have:=HM.out _ e;omega
   have hsl:=hR.out.sl Nw (n:=i+m) (by rw[jm];exact hl) (by omega) (fU hg);have HSL:=fB hsl hg hv;have hsz:=hb.size;clear hfin hv hg hl Nw hsl;go_wp2_with (go_at_call 113;refine(jw _ _ _ R _ HSL.out.1 HSL.out.2.1).mono ?_;rintro e w2 ⟨q,rfl,hq,ht,hb2⟩;have HT:=fB ht hq hb2;clear ht hq hb2);rw[Exit.noGoto_ret];exact aem
end
end Go.Proofs.YtefnknhjlejalaaGreatDoor
