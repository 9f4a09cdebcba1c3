/- Lemmas. -/
import Derived.Test.YtfdmnogfflcllaaGreatDoorM39
set_option linter.unusedVariables false
set_option linter.unusedSimpArgs false
set_option maxRecDepth 100000
set_option maxHeartbeats 20000000
namespace Go.Proofs.YtfdmnogfflcllaaGreatDoor
open Go.Proofs.Tryz
theorem EK{p:Prop}(h:p:=by
 gi_wp2_with (first|(refine⟨bq,?_⟩))
 go_ret;exact Says.no rfl F.out.bl):p:=h
theorem JK{p:Prop}(h:p:=by
 gi_wp2_with (first|(refine⟨bq,?_⟩))
 exact⟨⟨j+1,g,oE,by go_num,rfl,E,P,v,f⟩,by simp[intOf];omega⟩):p:=h
theorem TR{p:Prop}(h:p:=by have:=mS (show g<=5040 by omega) (show((z:Nat):Int)<=1001 by omega) oE oE;omega):p:=h
variable {c:bT}{m:Int}{q:Nat×Nat}
theorem cmp_eq{a b:Rt}(ha:a.ok)(hb:b.ok)(h:rW a b=0):a=b:=by refine agt ha hb ?_;have d:=(abY ha hb).1 oE;have e:=(abY hb ha).1 (by rw[aaB];omega);exact Rat.le_antisymm d e
def ao(c:bT):List Int:=(List.range (((c.2.2.1-c.2.1)/c.2.2.2.1).toNat+1)).map fun(j:Nat)=>c.2.1+c.2.2.2.1*(j:Int)
theorem abE(h:rC c):m∈ao c↔Nv (rX c) m=true:=by
 obtain⟨g,i,l,D,-⟩:=h;unfold ao Nv rX;rw[eZ];simp only[ev,fy];constructor;·rintro⟨j,n,rfl⟩;have a:0<=(c.2.2.1-c.2.1)/c.2.2.2.1:=mH oE oE;have d:(j:Int)<=(c.2.2.1-c.2.1)/c.2.2.2.1:=oE;have p:(j:Int)*c.2.2.2.1<=c.2.2.1-c.2.1:=(Int.le_ediv_iff_mul_le oE).1 d;have e:c.2.2.2.1*(j:Int)=(j:Int)*c.2.2.2.1:=Int.mul_comm _ _;have f:0<=(j:Int)*c.2.2.2.1:=mN oE oE;refine⟨oE,oE,?_⟩;rw[show c.2.1+c.2.2.2.1*(j:Int)-c.2.1=c.2.2.2.1*(j:Int) by omega,Int.mul_emod_right]
 rintro⟨E,P,b⟩;have e:=Int.mul_ediv_add_emod (m-c.2.1) c.2.2.2.1;rw[b,Int.add_zero]at e;have a:0<=(m-c.2.1)/c.2.2.2.1:=mH oE oE;have o:(m-c.2.1)/c.2.2.2.1<=(c.2.2.1-c.2.1)/c.2.2.2.1:=Int.ediv_le_ediv oE oE;refine⟨((m-c.2.1)/c.2.2.2.1).toNat,oE,?_⟩;rw[iB a,e];omega
def an(i k:Nat):List Int->List (Nat×Nat)
 | []=> []
 |m::l=>if m= -1 then(i,k)::an i (k+1) l else an i (k+1) l
def aa(i:Nat):List (List Int)->List (Nat×Nat)
 | []=> []
 |l::s=>an i 0 l++aa (i+1) s
def aw(s:List (List Int))(q:Nat×Nat)(m:Int):List (List Int):=s.set q.1 ((s.getD q.1 []).set q.2 m)
def aao:bT:=(⟨#[]⟩,0,0,1,0,0,false)
def comps(cs:List bT):List (Nat×Nat)->List (List Int)->List (List (List Int))
 | [],s=> [s]
 |q::L,s=>(ao (cs.getD q.1 aao)).flatMap fun m=>comps cs L (aw s q m)
def manyN(cs:List bT):List (Nat×Nat)->Nat
 | []=>1
 |q::L=>(ao (cs.getD q.1 aao)).length*manyN cs L
def abo(x:Rt):List Rt->List Rt
 | []=> [x]
 |y::l=>if rW y x<0 then y::abo x l else if rW y x=0 then y::l else x::y::l
def aaf(l:List Rt)(xs:List Rt):List Rt:=xs.foldl (fun l x=>abo x l) l
theorem abt{x z:Rt}(hx:x.ok):∀{l:List Rt},(∀y,y∈l->y.ok)->(z∈abo x l↔z=x\/z∈l)
 | [],_=>by simp[abo]
 |y::l,h=>by
  unfold abo;by_cases h1:rW y x<0
  ·rw[if_pos h1,cB,abt hx (fun z hz=>h z (bz _ hz)),cB];constructor
   ·rintro(e|e|e);·exact .inr (.inl e)
    ·exact .inl e
    exact .inr (.inr e)
   rintro(e|e|e);·exact .inr (.inl e)
   ·exact .inl e
   exact .inr (.inr e)
  rw[if_neg h1];by_cases h2:rW y x=0;·rw[if_pos h2];have e:=cmp_eq (h y cd) hx h2;subst e;simp
  rw[if_neg h2,cB]
theorem adX{x:Rt}(hx:x.ok){l:List Rt}(h:∀y,y∈l->y.ok):∀y,y∈abo x l->y.ok:=fun y hy=>by
 rcases(abt hx h).1 hy with rfl|hy;·exact hx
 exact h y hy
theorem abG{z:Rt}:∀{xs l:List Rt},(∀y,y∈l->y.ok)->(∀y,y∈xs->y.ok)->(z∈aaf l xs↔z∈xs\/z∈l)
 | [],l,_,_=>by simp[aaf]
 |x::xs,l,h,g=>by
  have hx:=g x cd;show z∈aaf (abo x l) xs↔_;rw[abG (adX hx h) (fun y hy=>g y (bz _ hy)),abt hx h,cB];constructor
  ·rintro(e|e|e);·exact .inl (.inr e)
   ·exact .inl (.inl e)
   exact .inr e
  rintro((e|e)|e);·exact .inr (.inl e)
  ·exact .inl e
  exact .inr (.inr e)
def acS:List Rt->Prop
 | []=>True
 |x::l=>(∀y,y∈l->rW x y<0)/\acS l
theorem adb{x:Rt}(hx:x.ok):∀{l:List Rt},(∀y,y∈l->y.ok)->acS l->acS (abo x l)
 | [],_,_=>And.intro (fun _ h=>absurd h oO) trivial
 |y::l,h,g=>by
  have hy:=h y cd;have hl:=fun z hz=>h z (bz _ hz);unfold abo;by_cases h1:rW y x<0
  ·rw[if_pos h1];refine⟨fun z hz=>?_,adb hx hl g.2⟩;rcases(abt hx hl).1 hz with rfl|hz;·exact h1
   exact g.1 z hz
  rw[if_neg h1];by_cases h2:rW y x=0;·rw[if_pos h2];exact g
  rw[if_neg h2];have h3:rW x y<0:=by have:=aaB x y;have:=adz y x;omega
  refine⟨fun z hz=>?_,g⟩;rcases cB.1 hz with rfl|hz;·exact h3
  exact(aaT hx (hl z hz)).2 (by have a:=(aaT hx hy).1 h3;have b:=(aaT hy (hl z hz)).1 (g.1 z hz);exact Std.lt_trans a b)
theorem aaM{α:Type}{d x:α}:∀{l:List α}{i:Nat},i<l.length->(l.set i x).getD i d=x:=fun{l i} h=>by simp[cx,h]
theorem mnq{α:Type}{d x:α}{l:List α}{i j:Nat}(h:i≠j):(l.set i x).getD j d=l.getD j d:=by rw[cx,cx,fz h]
theorem aec{s:List (List Int)}{r:Nat×Nat}{n:Int}(h:q≠r):aw (aw s q m) r n=aw (aw s r n) q m:=by
 obtain⟨i,k⟩:=q;obtain⟨j,b⟩:=r;unfold aw;by_cases e:i=j
 ·subst e;have d:k≠b:=fun e=>h (by rw[e]);by_cases a:i<s.length;·simp only[aaM a,List.set_set];rw[List.set_comm _ _ d]
  simp[my (mi a)]
 simp only[mnq e,mnq (Ne.symm e)];rw[List.set_comm _ _ e]
theorem aar{i:Nat}:∀{l:List Int}{k:Nat}{q:Nat×Nat},q∈an i k l->q.1=i/\k<=q.2
 |m::l,k,q,h=>by
  unfold an at h;have r:=fun(h:q∈an i (k+1) l)=>aar h;split at h
  ·rcases cB.1 h with rfl|h;·exact⟨rfl,bh _⟩
   exact⟨(r h).1,by have:=(r h).2;omega⟩
  exact⟨(r h).1,by have:=(r h).2;omega⟩
theorem aaU{i:Nat}:∀{l:List Int}{k:Nat},(an i k l).Nodup
 | [],_=>by simp[an]
 |m::l,k=>by
  unfold an;split;·exact iX.2 ⟨fun h=>by have h2:k+1<=k:=(aar h).2;omega,aaU⟩
  exact aaU
theorem abH:∀{s:List (List Int)}{i:Nat}{q:Nat×Nat},q∈aa i s->i<=q.1
 |l::s,i,q,h=>by
  unfold aa at h;rcases cR.1 h with h|h;·have:=(aar h).1;omega
  have:=abH h;omega
theorem aaA:∀{s:List (List Int)}{i:Nat},(aa i s).Nodup
 | [],_=>by simp[aa]
 |l::s,i=>by unfold aa;refine List.nodup_append.2 ⟨aaU,aaA,fun a ha b hb e=>?_⟩;subst e;have h1:=(aar ha).1;have h2:=abH hb;omega
theorem filter_all{L:List (Nat×Nat)}(h:q∉L):L.filter (fun r=>decide (r≠q))=L:=by rw[List.filter_eq_self];intro a b;exact cw fun e=>h (e▸b)
theorem ab1{i:Nat}{m:Int}(hm:m≠ -1):∀{l:List Int}{k b:Nat},an i k (l.set b m)=(an i k l).filter fun r=>decide (r≠(i,k+b))
 | [],_,_=>by simp[an]
 |x::l,k,0=>by
  have h0:(i,k)∉an i (k+1) l:=fun h=>by have h2:k+1<=k:=(aar h).2;omega
  show an i k (m::l)=(an i k (x::l)).filter fun r=>decide (r≠(i,k));rw[an,if_neg hm,an];split;·rw[gC oO,filter_all h0]
  rw[filter_all h0]
 |x::l,k,b+1=>by
  rw[fl,an,an,ab1 hm,show k+1+b=k+(b+1) by omega];split;·rw[gA oO]
  rfl
theorem abp{m:Int}(hm:m≠ -1):∀{s:List (List Int)}{i a b:Nat},aa i (aw s (a,b) m)=(aa i s).filter fun r=>decide (r≠(i+a,b))
 | [],i,a,b=>by simp[aw,aa]
 |l::s,i,0,b=>by show aa i (l.set b m::s)=(aa i (l::s)).filter fun r=>decide (r≠(i,b));rw[aa,aa,ab1 hm,List.filter_append,dm,filter_all (L:=aa (i+1) s) (fun h=>by have h2:i+1<=i:=abH h;omega)]
 |l::s,i,a+1,b=>by show aa i (l::aw s (a,b) m)=_;rw[aa,aa,abp hm,List.filter_append,show i+1+a=i+(a+1) by omega,filter_all (L:=an i 0 l) (fun h=>by have h2:i+(a+1)=i:=(aar h).1;omega)]
theorem acJ{cs:List bT}{q:Nat×Nat}{m:Int}(hm:m∈ao (cs.getD q.1 aao)):∀{L:List (Nat×Nat)}{s x:List (List Int)},L.Nodup->q∈L->x∈comps cs (L.filter fun r=>decide (r≠q)) (aw s q m)->x∈comps cs L s
 |r::L,s,x,hn,hq,hx=>by
  rw[comps,List.mem_flatMap];rw[iX]at hn;by_cases e:r=q;·subst e;rw[gC oO,filter_all hn.1]at hx;exact⟨m,hm,hx⟩
  rw[gA (by simpa using e),comps,List.mem_flatMap]at hx;obtain⟨n,hn',hx⟩:=hx;rw[aec (Ne.symm e)]at hx;refine⟨n,hn',acJ hm hn.2 ?_ hx⟩;rcases cB.1 hq with h|h;·exact absurd h.symm e
  exact h
theorem aa_(c:bT):0<(ao c).length:=by simp[ao]
theorem ab2(cs:List bT):∀L,0<manyN cs L
 | []=>Nat.one_pos
 |q::L=>Nat.mul_pos (aa_ _) (ab2 cs L)
theorem aa5(cs:List bT)(f:Nat×Nat->Bool):∀L,manyN cs (L.filter f)<=manyN cs L
 | []=>bh _
 |q::L=>by
  rw[List.filter_cons];split;·exact ln _ (aa5 cs f L)
  exact cD (aa5 cs f L) (Nat.le_mul_of_pos_left _ (aa_ _))
theorem abb(cs:List bT):∀(L:List (Nat×Nat)) (s:List (List Int)),(comps cs L s).length=manyN cs L
 | [],_=>rfl
 |q::L,s=>by
  rw[comps,manyN,List.length_flatMap];simp only[abb cs L];generalize ao (cs.getD q.1 aao)=C
  induction C with
  |nil=>simp
  |cons x C ih=>rw[fg,mf,ih,et,fX,fi,Nat.add_comm]
section
open Go.RowKit Go.Shelf
attribute [local go_sem] cK
theorem abe(h:rC c):(((ao c).length:Nat):Int)=(c.2.2.1-c.2.1).tdiv c.2.2.2.1+1/\(ao c).length<=1001:=by obtain⟨b,d,a,D,-⟩:=h;have e:0<=(c.2.2.1-c.2.1)/c.2.2.2.1:=mH oE oE;have f:(c.2.2.1-c.2.1)/c.2.2.2.1<=c.2.2.1-c.2.1:=Int.ediv_le_self _ oE;rw[eB oE];unfold ao;rw[cC,fR];omega
def aby(lim:Int)(cs:List bT):List (Nat×Nat)->Int->Int
 | [],n=>n
 |q::L,n=>aby lim cs L (if n<=lim then n*(((ao (cs.getD q.1 aao)).length:Nat):Int)else n)
theorem adJ(h:rC c)(w:World):CB 60 #[Qz c] (.int .i64 ((ao c).length:Nat)) w:=by
 refine wid ?_;obtain⟨W1,y,F1⟩:=dR ((Fr.nil w).a w (DY c) 59);have o:=aW F1;have F:=Hd F1;obtain⟨b,e⟩:=abe h;obtain⟨nm,lo,s,d,f,g,rv⟩:=c;have I:0<=lo/\lo<s/\s<=1000/\1<=d:=⟨h.1,h.2.1,h.2.2.1,h.2.2.2.1⟩;obtain⟨z,l⟩:=aC (ao (nm,lo,s,d,f,g,rv)).length;rw[l]at b e |-;simp only at b;obtain⟨t,S⟩:=aC ((s-lo).tdiv d);rw[S]at b;have n5:¬d=0:=oE;have i:IntKind.i64.wrap (s-lo)=s-lo:=by rw[bR];omega
 have j:IntKind.i64.wrap t=t:=by rw[bR];omega
 have n:IntKind.i64.wrap (t+1)=t+1:=by rw[bR];omega
 have HZ:=Hd b;clear F1 h l b e I;refine ent func60 rfl ntmps60 ?_;gi_wp2;go_ret;exact⟨by rw[HZ.out];rfl,F.out.bl⟩
theorem aeh{M:List Nat}{r:aS}{s1 s2 s3 s4 s5 s6 s7:dK}{c:dS}{t1 t2 t3 t4:dK}{lim:Int}{w:World}(hr:dG w M r s1 s2 s3 s4 s5 s6 s7)(hc:jE w M c t1 t2 t3 t4)(hk:∀x,x∈r.aT->rC x)(hl:c.marks.length<=r.aT.length)(hlim:0<=lim/\lim<=5040):
 CB 25 #[.agg (aV r s1 s2 s3 s4 s5 s6 s7).toArray,.agg (dI t1 t2 t3 t4).toArray,.int .i64 lim] (.int .i64 (aby lim r.aT (aa 0 c.marks) 1)) w:=by
 refine wid ?_;obtain⟨D,C,J⟩:=s1;obtain⟨I,s,K⟩:=t1;have A:Sl bT w M D C J r.aT:=hr.aT;have E:Sl (List Int) w [] I s K c.marks:=hc.marks;have am:=A.small;have ai:=E.small;have al:s<=C:=by rw[<-A.len,<-E.len];exact hl
 obtain⟨W1,aj,F1⟩:=dR (((Fr.nil w).a w (aV r ⟨D,C,J⟩ s2 s3 s4 s5 s6 s7) 28).a (w+1) (dI ⟨I,s,K⟩ t2 t3 t4) 42);obtain⟨Z,R⟩:=aC (aby lim r.aT (aa 0 c.marks) 1);rw[R];obtain⟨L,Q⟩:∃L:List (Nat×List Value), [(w.heap.size,aV r ⟨D,C,J⟩ s2 s3 s4 s5 s6 s7),(w+1,dI ⟨I,s,K⟩ t2 t3 t4)]=L:=⟨_,rfl⟩;have HL:=Hd (show ∀V,Fr w V L->Fr w V [(w,aV r ⟨D,C,J⟩ s2 s3 s4 s5 s6 s7),(w+1,dI ⟨I,s,K⟩ t2 t3 t4)]from fun V h=>by rw[Q];exact h);have F:=Hd (show Fr w W1 L by rw[<-Q];exact F1);have o1:=aW F1;have H:=h_ A E hk A.len;have HG:=Hd E.len;have HZ:=Hd R;clear F1 hr hc A E hk hl R Q;refine ent func25 rfl ntmps25 ?_;gi_wp2;clear o1;gi_loopw[7,8] (fun a i wr=>∃k:Nat,∃g:Int,k<=s/\i=.int .i64 k/\a=.int .i64 g/\1<=g/\g<=6000000/\Hid (aby lim r.aT (aa k (c.marks.drop k)) g=Z)/\Hid (Fr w wr L)) (fun _ i _=>s-(intOf i).toNat);case atStart=>exact⟨0,1,bO _,rfl,rfl,oE,oE,Hd (by rw[fh];exact HZ.out),F⟩
 case round=>
  obtain⟨k,g,hk,rfl,rfl,E,P,n,f⟩:=hrel;have o2:=aW (HL.out _ f.out);by_cases ae:k<s
  ·obtain⟨l,S⟩:=dW c.marks k (by rw[HG.out];exact ae);have HS:=Hd (show aby lim r.aT (an k 0 l++aa (k+1) (c.marks.drop (k+1))) g=Z by
    have h:=n.out;obtain⟨hi,e⟩:=bj.1 S;rw[cT hi,e,aa]at h;exact h)
   obtain⟨x,hx⟩:=dW r.aT k (by rw[H.w];omega);have HX:=Hd2 hx (H.c x (aR hx));have HK:=Hd S;clear n hx S;gi_wp2;clear o2;obtain⟨V,rfl⟩:∃V,V=wr:=⟨_,rfl⟩;gi_loopw[7,9] (fun a i wr=>∃j:Nat,∃g:Int,j<=l.length/\i=.int .i64 j/\a=.int .i64 g/\1<=g/\g<=6000000/\Hid (aby lim r.aT (an k j (l.drop j)++aa (k+1) (c.marks.drop (k+1))) g=Z)/\Hid (Fr w wr L)) (fun _ i _=>l.length-(intOf i).toNat);case atStart=>exact⟨0,g,bO _,rfl,rfl,E,P,Hd (by rw[fh];exact HS.out),f⟩
   case round=>
    obtain⟨j,g,hj,rfl,rfl,E,P,n,f⟩:=hrel;have o2:=aW (HL.out _ f.out);obtain⟨b,o,B,m,d,rfl,c0,X⟩:=(H.b.go (HL.out _ f.out).bl).tX HK.out;have ak:l.length=m:=X.len;have aq:=X.small;by_cases ad:j<m
    ·obtain⟨b2,ar,y,rfl,y0,-,-,Y⟩:=X.pR ad;obtain⟨ac,ey⟩:=bj.1 Y;have G:=Hd (show aby lim r.aT ((if y= -1 then(k,j)::an k (j+1) (l.drop (j+1))else an k (j+1) (l.drop (j+1)))++aa (k+1) (c.marks.drop (k+1))) g=Z by
      have h:=n.out;rw[cT ac,ey,an]at h;exact h)
     clear n Y X;by_cases N:y= -1
     ·subst N;by_cases W:g<=lim
      ·obtain⟨b3,t,es,rfl,U,p⟩:=(H.a.go (HL.out _ f.out).bl).get HX.a;obtain⟨rfl,-⟩:=lT U;have v0:wr.cell? ⟨b3,t+k*7,none⟩=some (.string x.1):=p.2 0 _ rfl;have v1:wr.cell? ⟨b3,t+k*7+1,none⟩=some (.int .i64 x.2.1):=p.2 1 _ rfl;have v2:wr.cell? ⟨b3,t+k*7+2,none⟩=some (.int .i64 x.2.2.1):=p.2 2 _ rfl;have v3:wr.cell? ⟨b3,t+k*7+3,none⟩=some (.int .i64 x.2.2.2.1):=p.2 3 _ rfl;have v4:wr.cell? ⟨b3,t+k*7+4,none⟩=some (.int .i64 x.2.2.2.2.1):=p.2 4 _ rfl;have v5:wr.cell? ⟨b3,t+k*7+5,none⟩=some (.int .i64 x.2.2.2.2.2.1):=p.2 5 _ rfl;have v6:wr.cell? ⟨b3,t+k*7+6,none⟩=some (.bool x.2.2.2.2.2.2):=p.2 6 _ rfl;have HM:=Hd (adJ HX.u wr);obtain⟨af,ag⟩:=abe HX.u;have ah:=aa_ x;have v:=Hd (show aby lim r.aT (an k (j+1) (l.drop (j+1))++aa (k+1) (c.marks.drop (k+1))) (g*(((ao x).length:Nat):Int))=Z by
        have h:=G.out;rw[if_pos rfl,dx,aby,if_pos W,cx,HX.a,eT]at h;exact h)
       obtain⟨z,hz⟩:=aC (ao x).length;rw[hz]at HM ag ah v;have p1:1<=g*((z:Nat):Int):=by have:=mS E (show(1:Int)<=((z:Nat):Int) by omega) oE oE;omega
       have p2:g*((z:Nat):Int)<=6000000:=by exact TR
       have p3:IntKind.i64.wrap (g*((z:Nat):Int))=g*((z:Nat):Int):=by rw[bR];omega
       clear U p hz af G
       gi_wp2_with (first
        |(refine Cl 60 HM.out ?_;rintro e w3 ⟨rfl,T⟩;have ab:=Hd (f.out.go T);clear T)
        |fail)
       exact⟨⟨j+1,_,oE,by go_num,rfl,p1,p2,v,ab⟩,by simp[intOf];omega⟩
      have v:=Hd (show aby lim r.aT (an k (j+1) (l.drop (j+1))++aa (k+1) (c.marks.drop (k+1))) g=Z by have h:=G.out;rw[if_pos rfl,dx,aby,if_neg W]at h;exact h);exact JK
     have ap:(y== -1)=false:=cU.2 N;have v:=Hd (show aby lim r.aT (an k (j+1) (l.drop (j+1))++aa (k+1) (c.marks.drop (k+1))) g=Z by
      have h:=G.out
      rwa [if_neg N]at h)
     clear N;exact JK
    ·have O:=Hd (show aby lim r.aT (aa (k+1) (c.marks.drop (k+1))) g=Z by
       have h:=n.out;rw[cA oE,an,de]at h;exact h)
     clear n X;gi_wp2;exact⟨⟨k+1,g,oE,by go_num,rfl,E,P,O,f⟩,by simp[intOf];omega⟩
  ·have O:=Hd (show g=Z by
     have h:=n.out;rw[cA (by rw[HG.out];omega),aa]at h;exact h)
   clear n;gi_wp2;go_ret;exact⟨by rw[O.out];rfl,(HL.out _ f.out).bl⟩
theorem ac6{M:List Nat}{r:aS}{s1 s2 s3 s4 s5 s6 s7:dK}{w:World}(hr:dG w M r s1 s2 s3 s4 s5 s6 s7)(hs:aa4 r)(hM:b_ M w):
 CB 24 #[.agg (aV r s1 s2 s3 s4 s5 s6 s7).toArray] (.int .i64 0) w:=
 (abn hr hM).mono fun e w' h=>by obtain⟨k,h1,h2,h3⟩:=h.of;rw[h2.2 hs]at h1;exact⟨h1,h3⟩
section
variable {M:List Nat}{r:aS}{s1 s2 s3 s4 s5 s6 s7:dK}{w:World}{k:Nat}{x:aJ}
theorem aeD(hr:dG w M r s1 s2 s3 s4 s5 s6 s7)(hS:aa4 r)(hx:r.rounds[k]?=some x)(hp:x.2.2.2.2.1=false)(hM:b_ M w)(hc:r.aT.length<=1000)(hk:k<=1000):
 Calls prog 64 #[.agg (aV r s1 s2 s3 s4 s5 s6 s7).toArray,.int .i64 k] w fun e w'=>∃A n c,e=.returned (.tuple #[.slice A n c,.int .i64 0])/\Sl Int w' [] A n c (aaL r.aT.length k (au x))/\Below w w w':=by
 refine wid ?_;obtain⟨A5,n5,c5⟩:=s5;have K:Sl aJ w M A5 n5 c5 r.rounds:=hr.rounds;have O:=K.small;have J:k<n5:=by rw[<-K.len];exact(bj.1 hx).1
 have N:¬((k:Nat):Int)>=((n5:Nat):Int):=oE;have I:¬((k:Nat):Int)<0:=oE;obtain⟨j,s,-,-,-,rfl,-⟩:=K.iw hx;obtain⟨W1,G,F1⟩:=dR ((Fr.nil w).a w (aV r s1 s2 s3 s4 ⟨some ⟨j,s,none⟩,n5,c5⟩ s6 s7) 28);have z:=aW F1;have F:=Hd F1;have h:∀y,y∈iZ (au x)->WOk y:=fun y o=>afb ((hS.1.2.1.rounds x (aR hx)).2.2.2.2.2 hp y o);have t:=Hd (ac6 (hr.go F1.bl) hS (hM.le F1.bl.size));have i:=Hd (fun(V:World) (hb:Below w w V)=>aeo (hr.go hb) hx h hc hk);have H:=fB K hx hp;clear F1 hr K hS hM hx hp h;refine ent func64 rfl ntmps64 ?_
 gi_wp2_with (first
  |(have g:=L.out;clear g;refine Cl 116 (i.out _ F.out.bl) ?_;rintro e R ⟨A,n,c,rfl,X,p⟩;have d:=Hd2 X (F.out.bl.trans (p.mono F.out.bl.size));clear p X)
  |(refine Cl 24 t.out ?_;rintro e Q ⟨rfl,f⟩;have U:=F.out.go f;replace F:=Hd U;have z:=aW U;have L:=Hd trivial;obtain⟨b3,C,D,P,E,l,⟨-,-,-,-,B,-⟩,-,-,-,-,-⟩:=(H.a.go U.bl).iw H.b;cases l;rw[H.v]at B;clear U f)
  |fail)
 exact⟨rfl,.tuple #[.slice A n c,.int .i64 0],by simp[results,go_sem],A,n,c,rfl,d.a,d.u⟩
theorem adU{nc:Nat}{l:List Int}(h:∀(j:Nat) (y:Int),l[j]?=some y->y=0\/y=if j=nc+1 then 2 else 1):aa6 nc l=true:=by unfold aa6;rw[cQ];intro j d;have a:=fy.1 d;have b:=h j _ (bX a);rw[cx,bX a,eT,ik,eZ,eZ];exact b
def afn(r:aS)(k:Nat)(x:aJ):Prop:=x.2.2.2.2.1=false/\x.2.2.2.2.2.1=false/\aa6 r.aT.length (aaL r.aT.length k (au x))=true
theorem aeE(hr:dG w M r s1 s2 s3 s4 s5 s6 s7)(hS:aa4 r)(hx:r.rounds[k]?=some x)(hM:b_ M w)(hc:r.aT.length<=1000)(hk:k<=1000):
 Calls prog 27 #[.agg (aV r s1 s2 s3 s4 s5 s6 s7).toArray,.int .i64 k] w (Says (afn r k x) w):=by
 refine wid ?_;have HX:=Hd hx;have v:=Hd (fun(hp:x.2.2.2.2.1=false) (V:World) (hb:Below w w V)=>aeD (hr.go hb) hS hx hp (hM.le hb.size) hc hk);obtain⟨P,z⟩:=aC (afn r k x);rw[z];obtain⟨S,f,c1⟩:=s1;obtain⟨A5,n5,c5⟩:=s5;have E:r.aT.length=f:=hr.aT.len;have K:Sl aJ w M A5 n5 c5 r.rounds:=hr.rounds;have ag:=K.small;have af:k<n5:=by rw[<-K.len];exact(bj.1 hx).1
 obtain⟨J,ae,p⟩:=dR ((Fr.nil w).a w (aV r ⟨S,f,c1⟩ s2 s3 s4 ⟨A5,n5,c5⟩ s6 s7) 28);obtain⟨b5,o5,B,m,d,rfl,⟨x0,x1,x2,x3,x4,x5⟩,⟨x6,x7,x8,x9,x10⟩,⟨x11,x12⟩,-,-,hs⟩:=(K.go p.bl).iw hx;obtain⟨W1,L,aa,F1⟩:=fP (w:=J) (p.a J [.string x.1,.int .i64 x.2.1,.int .i64 x.2.2.1,.int .i64 x.2.2.2.1,.bool x.2.2.2.2.1,.bool x.2.2.2.2.2.1,.int .i64 (au x).kind,.string (au x).name,.int .i64 (au x).n,.int .i64 (au x).d,.slice B m d,.string x.2.2.2.2.2.2.2.1,.int .i64 x.2.2.2.2.2.2.2.2] 68);have o0:=aW p;have H:=aW F1;have F:=Hd F1;have Y:=Hd z;rw[E]at v hc;have W:=Hd E;obtain⟨pl,G⟩:=aC x.2.2.2.2.1;obtain⟨fr,C⟩:=aC x.2.2.2.2.2.1;rw[G]at H x4 L F v;rw[C]at H x5 L F;have I:=Hd2 G C;clear p F1 hr K hs hx aa E hS hM z G C;cases pl;rotate_left;·refine ent func27 rfl ntmps27 ?_;exact EK
 cases fr;rotate_left;·refine ent func27 rfl ntmps27 ?_;exact EK
 have T:=Hd (v.out rfl W1 F.out.bl);refine ent func27 rfl ntmps27 ?_
 gi_wp2_with (first
  |(refine Cl 64 T.out ?_;rintro e w4 ⟨A,n,c,rfl,X,hb4⟩;replace F:=Hd (F.out.go hb4);have H:=aW F.out;have hn:=X.small;have t:=Hd2 X X.len;clear hb4 X)
  |fail)
 obtain⟨l,D⟩:=aC (aaL f k (au x));rw[D]at t;have U:=Hd D;clear D;gi_loopw[8] (fun i wr=>∃j:Nat,j<=n/\i=.int .i64 j/\w4=wr/\Hid (∀(q:Nat) (y:Int),q<j->l[q]?=some y->y=0\/y=if q=f+1 then 2 else 1)) (fun i _=>n-(intOf i).toNat);case atStart=>exact⟨0,bO _,rfl,rfl,Hd (fun q y s=>by omega)⟩
 case round=>
  obtain⟨j,hj,rfl,rfl,Q⟩:=hrel;by_cases ac:j<n
  ·obtain⟨b,o,y,rfl,c0,-,-,g⟩:=t.a.pR ac;have HY:=Hd g;clear g;by_cases N:j=f+1
   ·have ab:(((j:Nat):Int)==((f:Nat):Int)+1)=true:=oS;subst N;by_cases h:y=0
    ·subst h;gi_wp2_with (first|(refine⟨bq,?_⟩))
     exact⟨⟨f+1+1,oE,by go_num,oY,Hd (fun q y s g=>by
      by_cases e:q=f+1;·subst e;rw[HY.out]at g;cases g;exact .inl rfl
      exact Q.out q y oE g)⟩,by simp[intOf];omega⟩
    have ad:(y !=0)=true:=fo.2 h;by_cases R:y=2
    ·subst R;gi_wp2_with (first|(refine⟨bq,?_⟩))
     exact⟨⟨f+1+1,oE,by go_num,oY,Hd (fun q y s g=>by
      by_cases e:q=f+1;·subst e;rw[HY.out]at g;cases g;exact .inr (by rw[if_pos rfl])
      exact Q.out q y oE g)⟩,by simp[intOf];omega⟩
    have ai:(y !=2)=true:=fo.2 R;exact EK
   have ab:(((j:Nat):Int)==((f:Nat):Int)+1)=false:=oS;by_cases h:y=0
   ·subst h;gi_wp2_with (first|(refine⟨bq,?_⟩))
    exact⟨⟨j+1,oE,by go_num,oY,Hd (fun q y s g=>by
     by_cases e:q=j;·subst e;rw[HY.out]at g;cases g;exact .inl rfl
     exact Q.out q y oE g)⟩,by simp[intOf];omega⟩
   have ad:(y !=0)=true:=fo.2 h;by_cases O:y=1
   ·subst O;gi_wp2_with (first|(refine⟨bq,?_⟩))
    exact⟨⟨j+1,oE,by go_num,oY,Hd (fun q y s g=>by
     by_cases e:q=j;·subst e;rw[HY.out]at g;cases g;exact .inr (by rw[if_neg N])
     exact Q.out q y oE g)⟩,by simp[intOf];omega⟩
   have ah:(y !=1)=true:=fo.2 O;exact EK
  ·obtain rfl:j=n:=oE;have Z:=Hd (show P by
    rw[<-Y.out];refine⟨I.a,I.u,?_⟩;rw[W.out,U.out];exact adU fun q y g=>Q.out q y (by rw[<-t.u];exact(bj.1 g).1) g)
   clear Q;gi_wp2;go_ret;exact Says.yes rfl Z.out F.out.bl
end
end
