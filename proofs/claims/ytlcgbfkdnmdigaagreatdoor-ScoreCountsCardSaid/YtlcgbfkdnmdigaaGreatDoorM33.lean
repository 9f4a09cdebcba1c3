/- Lemmas and walks; no statement is proved here. -/
import Derived.Test.YtlcgbfkdnmdigaaGreatDoorM30
set_option linter.unusedVariables false
set_option linter.unusedSimpArgs false
set_option maxRecDepth 20000
set_option maxHeartbeats 6000000
namespace Go.Proofs.YtlcgbfkdnmdigaaGreatDoor
open Go.Proofs.Tryz
theorem ad9{p:Prop}(h:p:=by
 gi_wp2_with (first
  |(refine Cl 117 (aj _ _ _ _) ?_;rintro e w2 ⟨rfl,rfl⟩;rw[HQ.out])
  |(refine⟨trivial,?_⟩))
 go_ret;exact Says.no (by first|rfl|simp[*]) HF.out.bl):p:=h
theorem aeh{p:Prop}(h:p:=by exact⟨false,false,by rw[h1];rfl,fun _=>h4 (by omega) (by omega),fun e=>(by cases e),fun _=>⟨(h3 (by omega)).1,fun _=>(h3 (by omega)).2 (by omega) (by omega)⟩⟩):p:=h
theorem afe{p:Prop}(h:p:=by obtain⟨A',c',rfl,hsl⟩:=hO.out.sl (by omega);have T0:=Hd2 hsl hO.out.fr;clear hj hlj hO hsl;gi_wp2;exact⟨by unfold Yp;exact⟨t+1,A',c',by omega,by go_num,rfl,Hd T0.out.1,Hd T0.out.2⟩,by simp[intOf];omega⟩):p:=h
theorem afr{p:Prop}(h:p:=by rwa [List.take_of_length_le (by rw[H.out.2.1];exact Nat.le_refl _)]at h):p:=h
theorem afw{p:Prop}(h:p:=by have h1:(l.length:Int)=0:=h1;exact⟨false,true,by rw[h1];rfl,fun e=>(by cases e),fun e=>(by cases e),fun _=>⟨(h3 (by omega)).1,fun e=>(by cases e)⟩⟩):p:=h
theorem afV{p:Prop}(h:p:=by obtain⟨u,e,hu⟩:=H.out.2.2.1 x (List.mem_of_getElem? hx) y hy h5;exact⟨u,e,by rw[<-H.out.2.1];exact hu⟩):p:=h
theorem af4{p:Prop}(h:p:=by exact⟨true,false,by rw[h1];rfl,fun _=>h4 (by omega) (by omega),fun _=>h2 (by omega),fun e=>(by cases e)⟩):p:=h
theorem agl{p:Prop}(h:p:=by have T0:=Hd2 hS.out hF.out.bl;clear ht hlt hS hF;gi_wp2;go_ret;exact⟨A,c,rfl,T0.out.1,T0.out.2⟩):p:=h
variable {t i n c m d:Nat}{r:aS}{p:Prop}{w':World}{M M':List Nat}{A B:Option Addr}{nm:ByteArray}{ks:List bK}
def vw(ts:List dA):Nat->Nat->Bool
 |0,_=>true
 |t+1,i=>match ts[i]? with
  |none=>false
  |some x=>x.2.any fun(k:bK)=>decide (k.1=5)&&vw ts t k.2.2.toNat
def KJ(ts:List dA):Nat->Nat->Nat
 |0,_=>0
 |t+1,i=>match ts[i]? with
  |none=>0
  |some x=>min ((x.2.map fun(k:bK)=>if k.1=5 then KJ ts t k.2.2.toNat else 1).sum) 33
theorem KL(ts:List dA):∀(t i:Nat),vw ts (t+1) i=true->vw ts t i=true
 |0,_,_=>rfl
 |t+1,i,h=>by
  unfold vw at h |-
  cases e:ts[i]? with
  |none=>rw[e]at h;cases h
  |some x=>rw[e]at h;simp only[List.any_eq_true,Bool.and_eq_true]at h |-;obtain⟨k,hk,h5,hc⟩:=h;exact⟨k,hk,h5,KL ts t _ hc⟩
theorem aaP(ts:List dA){s:Nat}(h:s<=t)(hc:vw ts t i=true):vw ts s i=true:=by
 induction h with
 |refl=>exact hc
 | @step m _ ih=>exact ih (KL ts m i hc)
theorem KN(ts:List dA)(i:Nat):∀n,vw ts n i=false->∃m,m<n/\vw ts m i=true/\vw ts (m+1) i=false
 |0,h=>by cases h
 |n+1,h=>by
  cases e:vw ts n i with
  |true=>exact⟨n,Nat.lt_succ_self n,e,h⟩
  |false=>obtain⟨m,a,b⟩:=KN ts i n e;exact⟨m,by omega,b⟩
theorem Ql{α:Type}{f g:α->Nat}(h:∀x,f x=min (g x) 33):∀l:List α,min ((l.map f).sum) 33=min ((l.map g).sum) 33
 | []=>rfl
 |x::l=>by have:=Ql h l;have:=h x;simp only[List.map_cons,List.sum_cons];omega
theorem Vl(ts:List dA):∀(t i:Nat),KJ ts t i=min (RI ts t i).length 33
 |0,_=>rfl
 |t+1,i=>by
  unfold KJ RI
  cases e:ts[i]? with
  |none=>rfl
  |some x=>
   simp only;rw[List.length_flatMap];refine Ql (fun k=>?_) _;by_cases h5:k.1=5;·rw[if_pos h5,if_pos h5,Vl ts t]
   ·rw[if_neg h5,if_neg h5];simp
theorem Hf{r:aS}{rk:Nat->Nat}(hr:∀i t,r.ties[i]?=some t->∀k,k∈t.2->k.1=5->∃u:Nat,k.2.2=(u:Int)/\u<r.ties.length/\rk u<rk i):∀(f g i:Nat),i<r.ties.length->rk i<f->rk i<g->RI r.ties f i=RI r.ties g i
 |0,_,_,_,a,_=>by omega
 |_,0,_,_,_,a=>by omega
 |f+1,g+1,i,hi,a,b=>by
  unfold RI;have ht:r.ties[i]?=some r.ties[i]:=List.getElem?_eq_getElem hi;rw[ht];apply vV;intro k hk;by_cases h5:k.1=5;·obtain⟨u,e,hu,hlt⟩:=hr i _ ht k hk h5;rw[if_pos h5,if_pos h5,e];exact Hf hr f g u hu (by omega) (by omega)
  rw[if_neg h5,if_neg h5]
theorem aaQ(hf:r.ties.length<=5)(hk:∀t,t∈r.ties->t.2.length<=4)(href:∀t,t∈r.ties->∀k,k∈t.2->k.1=5->∃u:Nat,k.2.2=(u:Int)/\u<r.ties.length)
 (hc:∀i,i<r.ties.length->vw r.ties r.ties.length i=false) (hm:∀i,i<r.ties.length->KJ r.ties r.ties.length i<=32):∃rk,T15 r rk:=by
 have key:∀i,∃m,i<r.ties.length->m<r.ties.length/\vw r.ties m i=true/\vw r.ties (m+1) i=false:=fun i=>by
  by_cases hi:i<r.ties.length;·obtain⟨m,h⟩:=KN r.ties i _ (hc i hi);exact⟨m,fun _=>h⟩
  exact⟨0,fun h=>absurd h hi⟩
 have hrk:∀i t,r.ties[i]?=some t->∀k,k∈t.2->k.1=5->∃u:Nat,k.2.2=(u:Int)/\u<r.ties.length/\(key u).choose<(key i).choose:=fun i t ht k hkm h5=>by
  have hi:=(List.getElem?_eq_some_iff.1 ht).1;obtain⟨u,e,hu⟩:=href t (List.mem_of_getElem? ht) k hkm h5;refine⟨u,e,hu,?_⟩;obtain⟨-,a,-⟩:=(key u).choose_spec hu;obtain⟨-,-,b⟩:=(key i).choose_spec hi;rcases Nat.lt_or_ge (key u).choose (key i).choose with g|g;·exact g
  have c:vw r.ties ((key u).choose+1) i=true:=by unfold vw;rw[ht];simp only[List.any_eq_true,Bool.and_eq_true];exact⟨k,hkm,decide_eq_true h5,by rw[e];exact a⟩
  have:=aaP r.ties (show(key i).choose+1<=(key u).choose+1 by omega) c;rw[b]at this;cases this
 refine⟨fun i=>(key i).choose,hf,hk,hrk,fun i hi=>?_,fun i hi=>?_⟩;·have:=((key i).choose_spec hi).1;show(key i).choose<5;omega
 ·have h1:=((key i).choose_spec hi).1;have h2:=hm i hi;rw[Vl]at h2;have h3:=Hf hrk 5 r.ties.length i hi (by show(key i).choose<5;omega) h1;show(RI r.ties 5 i).length<=32;rw[h3];omega
def mV(k:Int):Int:=if k=1\/k=2\/k=3\/k=4\/k=5 then 0 else if k=8 then 1 else if k=6\/k=7\/k=9\/k=10 then 2 else if k=11 then 4 else-1
structure Jg(y:aU):Prop where
 len:((y.l.length:Nat):Int)=mV y.kind
 num:(y.kind=1\/y.kind=8)->0<=y.n/\y.n<=1099511627776/\1<=y.d/\y.d<=1099511627776
 no:¬(y.kind=1\/y.kind=8)->y.d=0/\(¬y.kind=2->¬y.kind=5->y.n=0)
 name:¬y.kind=2->¬y.kind=5->y.name.toList= []
theorem Dw{y:aU}(h:Jg y):pX y:=by
 obtain⟨h1,h2,h3,h4⟩:=h;obtain⟨k,s,n,d,l⟩:=y;simp only[aU.kind,aU.name,aU.n,aU.d,aU.l]at h1 h2 h3 h4;have hk:k=1\/k=2\/k=3\/k=4\/k=5\/k=6\/k=7\/k=8\/k=9\/k=10\/k=11:=by
  unfold mV at h1
  repeat' split at h1
  all_goals omega
 unfold pX;simp only[aU.kind,aU.name,aU.n,aU.d,aU.l];rcases hk with rfl|rfl|rfl|rfl|rfl|rfl|rfl|rfl|rfl|rfl|rfl;·have h1:(l.length:Int)=0:=h1;exact af4
 ·exact afw
 ·have h1:(l.length:Int)=0:=h1;exact aeh
 ·have h1:(l.length:Int)=0:=h1;exact aeh
 ·exact afw
 ·have h1:(l.length:Int)=2:=h1;exact aeh
 ·have h1:(l.length:Int)=2:=h1;exact aeh
 ·have h1:(l.length:Int)=1:=h1;exact af4
 ·have h1:(l.length:Int)=2:=h1;exact aeh
 ·have h1:(l.length:Int)=2:=h1;exact aeh
 have h1:(l.length:Int)=4:=h1;exact aeh
theorem Qn{y:aU}:∀{l:List aU},y∈Ah l->∃z,z∈l/\y∈iZ z
 | [],h=>by rw[Ah]at h;cases h
 |x::l,h=>by
  rw[Ah]at h;rcases List.mem_append.1 h with h|h;·exact⟨x,List.mem_cons_self,h⟩
  obtain⟨z,a,b⟩:=Qn h;exact⟨z,List.mem_cons_of_mem _ a,b⟩
theorem o_{Q:aU->Prop}{x:aU}(h:Q x)(hl:∀z,z∈x.l->∀y,y∈iZ z->Q y):∀y,y∈iZ x->Q y:=by
 intro y hy;rw[lW]at hy;rcases List.mem_cons.1 hy with rfl|hy;·exact h
 obtain⟨z,a,b⟩:=Qn hy;exact hl z a y b
theorem bY{α:Type}{Q:α->Prop}{l:List α}{k:Nat}{y:α}(hy:l[k]?=some y)(h:∀z,z∈l.take k->Q z)(hq:Q y):∀z,z∈l.take (k+1)->Q z:=by
 intro z hz;rw[List.take_add_one,hy]at hz;rcases List.mem_append.1 hz with hz|hz;·exact h z hz
 rw[Option.toList_some,List.mem_singleton]at hz;rw[hz];exact hq
theorem Qo:∀(l:List Int) (a:Int),(∀x,x∈l->0<=x)->(∀x,l[0]?=some x->x<=a)->(∀(i:Nat) (x y:Int),l[i]?=some x->l[i+1]?=some y->y<=x)->pW a l
 | [],_,_,_,_=>trivial
 |n::l,a,h0,h1,h2=>⟨h0 n List.mem_cons_self,h1 n rfl,Qo l n (fun x hx=>h0 x (List.mem_cons_of_mem _ hx)) (fun x hx=>h2 0 n x rfl (by simpa using hx)) (fun i x y hx hy=>h2 (i+1) x y (by simpa using hx) (by simpa using hy))⟩
theorem Yo{t p:Int}(h1:t<=256)(h2:2*t<p)(hp:1<=p):t<(p+1).tdiv 2:=by rw[Int.tdiv_eq_ediv_of_nonneg (by omega)];omega
section
open Go.RowKit Go.Shelf
attribute [local go_sem] Oper.semAt_some
def Says(p:Prop)(w:World)(e:Ending)(w':World):Prop:=∃b,e=.returned (.bool b)/\(b=true->p)/\Below w.heap.size w w'
attribute [irreducible] Says
theorem Says.no{w:World}{e:Ending}(h:e=.returned (.bool false))(hb:Below w.heap.size w w'):Says p w e w':=by unfold Says;exact⟨false,h,fun e=>(by cases e),hb⟩
theorem Says.yes{w:World}{e:Ending}(h:e=.returned (.bool true))(hp:p)(hb:Below w.heap.size w w'):Says p w e w':=by unfold Says;exact⟨true,h,fun _=>hp,hb⟩
theorem Says.of{w:World}{e:Ending}(h:Says p w e w'):∃b,e=.returned (.bool b)/\(b=true->p)/\Below w.heap.size w w':=by unfold Says at h;exact h
theorem aj(n low high:Int)(w:World):Calls prog 117 #[.int .i64 n,.int .i64 low,.int .i64 high] w fun e w'=>e=.returned (.bool (decide (low<=n)&&decide (n<=high)))/\w=w':=by
 refine wid ?_;by_cases hl:low<=n;·refine ent func117 rfl ntmps117 ?_;gi_wp2;go_ret;exact⟨by simp[hl],rfl⟩
 refine ent func117 rfl ntmps117 ?_;gi_wp2;go_ret;have hl2:¬low<=n:=by omega
 exact⟨by simp[hl2],rfl⟩
theorem RS(x:bT)(w:World):Calls prog 118 #[.agg #[.string x.1,.int .i64 x.2.1,.int .i64 x.2.2.1,.int .i64 x.2.2.2.1,.int .i64 x.2.2.2.2.1,.int .i64 x.2.2.2.2.2.1,.bool x.2.2.2.2.2.2]] w (Says (zM x) w):=by
 obtain⟨s,lo,hi,st,how,tr,rv⟩:=x;refine wid ?_;obtain⟨q,hq⟩:=aC (decide (1<=how)&&decide (how<=3));have HQ:=Hd hq;obtain⟨W1,hW1,F1⟩:=dR ((Fr.nil w).a w.heap.size [.string s,.int .i64 lo,.int .i64 hi,.int .i64 st,.int .i64 how,.int .i64 tr,.bool rv] 53);refine op1 F1 ?_;intros;have HF:=Hd F1;clear F1 hq;by_cases a1:lo<0;·refine ent func118 rfl ntmps118 ?_;exact ad9
 by_cases a2:hi<=lo;·refine ent func118 rfl ntmps118 ?_;exact ad9
 by_cases a3:1000<hi;·refine ent func118 rfl ntmps118 ?_;exact ad9
 by_cases a4:st<1;·refine ent func118 rfl ntmps118 ?_;exact ad9
 have n5:¬st=0:=by omega
 have n6:IntKind.i64.wrap (hi-lo)=hi-lo:=by rw[IntKind.wrap_i64];omega
 obtain⟨t,ht⟩:=aC ((hi-lo).tmod st);have n7:t.natAbs<=1000:=by rw[<-ht,Int.natAbs_tmod];exact Nat.le_trans (Nat.mod_le _ _) (by omega)
 have n8:IntKind.i64.wrap t=t:=by rw[IntKind.wrap_i64];omega
 by_cases a5:t=0;rotate_left;·refine ent func118 rfl ntmps118 ?_;exact ad9
 subst a5;have HT:=Hd ht;cases q;·refine ent func118 rfl ntmps118 ?_;exact ad9
 by_cases a6:0<=tr;rotate_left;·refine ent func118 rfl ntmps118 ?_;exact ad9
 have HB:=Hd (show 1<=how/\how<=3 by have h:=HQ.out;simpa using h);by_cases a7:tr=0
 ·subst a7;refine ent func118 rfl ntmps118 ?_
  gi_wp2_with (first
   |(refine Cl 117 (aj _ _ _ _) ?_;rintro e w2 ⟨rfl,rfl⟩;rw[HQ.out])
   |(refine⟨trivial,?_⟩))
  go_ret;exact Says.yes (by first|rfl|simp[*]) ⟨by omega,by omega,by omega,by omega,HT.out,HB.out.1,HB.out.2,by omega,.inl rfl⟩ HF.out.bl
 by_cases a8:how=2
 ·subst a8;refine ent func118 rfl ntmps118 ?_
  gi_wp2_with (first
   |(refine Cl 117 (aj _ _ _ _) ?_;rintro e w2 ⟨rfl,rfl⟩;rw[HQ.out])
   |(refine⟨trivial,?_⟩))
  go_ret;exact Says.yes (by first|rfl|simp[*]) ⟨by omega,by omega,by omega,by omega,HT.out,HB.out.1,HB.out.2,by omega,.inr rfl⟩ HF.out.bl
 refine ent func118 rfl ntmps118 ?_;exact ad9
theorem bH(k:Int)(w:World):Calls prog 206 #[.int .i64 k] w fun e w'=>e=.returned (.int .i64 (mV k))/\w=w':=by
 refine wid ?_;by_cases h:k=1\/k=2\/k=3\/k=4\/k=5\/k=6\/k=7\/k=8\/k=9\/k=10\/k=11
 ·rcases h with rfl|rfl|rfl|rfl|rfl|rfl|rfl|rfl|rfl|rfl|rfl
  all_goals
   refine ent func206 rfl ntmps206 ?_;gi_wp2;go_ret;exact⟨rfl,rfl⟩
 simp only[not_or]at h;obtain⟨h1,h2,h3,h4,h5,h6,h7,h8,h9,h10,h11⟩:=h;have HR:=Hd (show mV k= -1 by unfold mV;rw[if_neg (by omega),if_neg (by omega),if_neg (by omega),if_neg (by omega)]);refine ent func206 rfl ntmps206 ?_;gi_wp2;go_ret;exact⟨by rw[HR.out];rfl,rfl⟩
theorem Oi(x:bK)(w:World):Calls prog 119 #[.agg #[.int .i64 x.1,.string x.2.1,.int .i64 x.2.2]] w (Says (sZ x) w):=by
 obtain⟨k,s,n⟩:=x;refine wid ?_;obtain⟨q,hq⟩:=aC (decide (1<=k)&&decide (k<=6));have HQ:=Hd hq;obtain⟨W1,hW1,F1⟩:=dR ((Fr.nil w).a w.heap.size [.int .i64 k,.string s,.int .i64 n] 116);refine op1 F1 ?_;intros;have HF:=Hd F1;clear F1 hq;by_cases h:k=1\/k=2\/k=5
 ·have HO:=Hd h;rcases h with rfl|rfl|rfl
  all_goals
   cases q;·exact absurd HQ.out (by decide)
   ·refine ent func119 rfl ntmps119 ?_
    gi_wp2_with (first
     |(refine Cl 117 (aj _ _ _ _) ?_;rintro e w2 ⟨rfl,rfl⟩;rw[HQ.out])
     |(refine⟨trivial,?_⟩))
    go_ret;exact Says.yes (by first|rfl|simp[*]) (by unfold sZ;omega) HF.out.bl
 simp only[not_or]at h;obtain⟨h1,h2,h5⟩:=h;cases q;·refine ent func119 rfl ntmps119 ?_;exact ad9
 have HB:=Hd (show 1<=k/\k<=6 by have h:=HQ.out;simpa using h);by_cases hn:n=0;rotate_left;·refine ent func119 rfl ntmps119 ?_;exact ad9
 subst hn;by_cases hs:s.toList= []
 ·have he:s.toList.isEmpty=true:=by simpa using hs
  have HS:=Hd hs;clear hs;refine ent func119 rfl ntmps119 ?_
  gi_wp2_with (first
   |(refine Cl 117 (aj _ _ _ _) ?_;rintro e w2 ⟨rfl,rfl⟩;rw[HQ.out])
   |(refine⟨trivial,?_⟩))
  go_ret;exact Says.yes (by first|rfl|simp[*]) (.inr (.inr (.inr ⟨by have:=HB.out;omega,rfl,HS.out⟩))) HF.out.bl
 have he:s.toList.isEmpty=false:=by simpa using hs
 clear hs;refine ent func119 rfl ntmps119 ?_;exact ad9
theorem Sl.Vu{w:World}{k:Nat}{l:List Bool}{x:Bool}(h:Sl Bool w M A n c l)(hk:l[k]?=some x):∃b o,A=some ⟨b,o,none⟩/\w.cell? ⟨b,o+k,none⟩=some (.bool x):=by obtain⟨b,o,es,rfl,h1,h2⟩:=h.get hk;have h3:es=_:=h1;subst h3;have h4:=h2.2 0 _ rfl;rw[show Rep.sz Bool=1 from rfl,Nat.mul_one]at h4;exact⟨b,o,rfl,h4⟩
def Dy(f:Nat->Bool)(k:bK):Bool:=decide (k.1=5)&&f k.2.2.toNat
theorem Oo{bs:List Bool}(f:Nat->Bool){w:World}(hs:Sl bK w M B m d ks)(hb:Sl Bool w M' A n c bs)(hf:∀u,u<n->bs[u]?=some (f u))(hr:∀k,k∈ks->k.1=5->∃u:Nat,k.2.2=(u:Int)/\u<n):
 CB 121 #[.agg #[.string nm,.slice B m d],.slice A n c] (.bool (ks.any (Dy f))) w:=by
 refine wid ?_;have hsm:=hs.small;have hsn:=hb.small;obtain⟨W1,hW1,F1⟩:=dR ((Fr.nil w).a w.heap.size [.string nm,.slice B m d] 108);have H:=oK (hs.go F1.bl) hs.len (hb.go F1.bl) hf hr;have HB:=Hd F1.bl;have o1:=aW F1;clear F1 hs hb hf hr;refine ent func121 rfl ntmps121 ?_;gi_wp2;gi_loopw[5] (fun i wr=>∃k:Nat,k<=m/\i=.int .i64 k/\W1=wr/\Hid ((ks.take k).any (Dy f)=false)) (fun i _=>m-(intOf i).toNat);case atStart=>exact⟨0,Nat.zero_le _,rfl,by first|rfl|exact hW1|exact hW1.symm,Hd (by simp)⟩
 case round=>
  obtain⟨k,hk,rfl,rfl,hR⟩:=hrel;by_cases hlt:k<m
  ·obtain⟨y,hy⟩:=dW ks k (by rw[H.out.2.1];exact hlt);obtain⟨b,o,rfl,c0,c1,c2⟩:=H.out.1.xQ hy;have hst:=xI (Dy f) hy;obtain⟨yk,ys,yn⟩:=y;simp only at c0 c1 c2;by_cases h5:yk=5
   ·subst h5;obtain⟨u,rfl,hu⟩:=H.out.2.2.2.2 _ (List.mem_of_getElem? hy) rfl;have hfu:=H.out.2.2.2.1 u hu;obtain⟨b2,o2,rfl,e0⟩:=H.out.2.2.1.Vu hfu;obtain⟨z,hz⟩:=aC (f u);rw[hz]at e0;have HY:=fB hst (show Dy f (5,ys,(u:Int))=z by simp[Dy,hz]) hy;clear hst hy hfu hz;cases z;·gi_wp2;exact⟨⟨k+1,by omega,by go_num,trivial,Hd (by rw[HY.out.1,hR.out,HY.out.2.1];rfl)⟩,by simp[intOf];omega⟩
    have HE:=Hd (show ks.any (Dy f)=true from List.any_eq_true.2 ⟨_,List.mem_of_getElem? HY.out.2.2,HY.out.2.1⟩);gi_wp2;go_ret;exact⟨by rw[HE.out];rfl,HB.out⟩
   have h5b:(yk==5)=false:=beq_eq_false_iff_ne.2 h5;have HY:=Hd2 hst (show Dy f (yk,ys,yn)=false by simp[Dy,h5]);clear hst hy h5;gi_wp2_with (first|(refine⟨trivial,?_⟩))
   exact⟨⟨k+1,by omega,by go_num,trivial,Hd (by rw[HY.out.1,hR.out,HY.out.2];rfl)⟩,by simp[intOf];omega⟩
  ·obtain rfl:k=m:=by omega
   have HE:=Hd (show ks.any (Dy f)=false by have h:=hR.out;exact afr);clear hk hlt;gi_wp2;go_ret;exact⟨by rw[HE.out];rfl,HB.out⟩
def uV(f:Nat->Nat)(k:bK):Nat:=if k.1=5 then f k.2.2.toNat else 1
theorem Vw{f:Nat->Nat}{l:List bK}{k:Nat}{y:bK}(h:l[k]?=some y):((l.take (k+1)).map (uV f)).sum=((l.take k).map (uV f)).sum+uV f y:=by rw[List.take_add_one,h];simp
theorem cnt_le{f:Nat->Nat}(hf:∀u,f u<=33):∀l:List bK,(l.map (uV f)).sum<=33*l.length
 | []=>by simp
 |k::l=>by
  have h1:=cnt_le hf l;have h2:uV f k<=33:=by unfold uV;split;exact hf _;omega
  simp only[List.map_cons,List.sum_cons,List.length_cons];omega
theorem count_any{of:List Int}(f:Nat->Nat){w:World}(hs:Sl bK w M B m d ks)(hb:Sl Int w M' A n c of)(hf:∀u,u<n->of[u]?=some ((f u:Nat):Int))(h33:∀u,f u<=33)(hr:∀k,k∈ks->k.1=5->∃u:Nat,k.2.2=(u:Int)/\u<n)(hm:m<=1000):
 CB 122 #[.agg #[.string nm,.slice B m d],.slice A n c] (.int .i64 ((min ((ks.map (uV f)).sum) 33:Nat):Int)) w:=by
 refine wid ?_;have hsn:=hb.small;obtain⟨W1,hW1,F1⟩:=dR ((Fr.nil w).a w.heap.size [.string nm,.slice B m d] 108);have H:=oK (hs.go F1.bl) hs.len (hb.go F1.bl) hf hr;have H33:=Hd h33;have HB:=Hd F1.bl;have o1:=aW F1;clear F1 hs hb hf hr h33;refine ent func122 rfl ntmps122 ?_;gi_wp2;gi_loopw[5,6] (fun v i wr=>∃k s:Nat,k<=m/\v=.int .i64 (s:Int)/\i=.int .i64 k/\W1=wr/\Hid (((ks.take k).map (uV f)).sum=s)) (fun _ i _=>m-(intOf i).toNat);case atStart=>exact⟨0,0,Nat.zero_le _,rfl,rfl,by first|rfl|exact hW1|exact hW1.symm,Hd (by simp)⟩
 case round=>
  obtain⟨k,s,hk,rfl,rfl,rfl,hR⟩:=hrel;have aaS:s<=33000:=by have h1:=cnt_le H33.out (ks.take k);rw[hR.out,List.length_take]at h1;omega
  by_cases hlt:k<m
  ·obtain⟨y,hy⟩:=dW ks k (by rw[H.out.2.1];exact hlt);obtain⟨b,o,rfl,c0,c1,c2⟩:=H.out.1.xQ hy;have hst:=Vw (f:=f) hy;obtain⟨yk,ys,yn⟩:=y;simp only at c0 c1 c2;by_cases h5:yk=5
   ·subst h5;obtain⟨u,rfl,hu⟩:=H.out.2.2.2.2 _ (List.mem_of_getElem? hy) rfl;have hfu:=H.out.2.2.2.1 u hu;obtain⟨b2,o2,x,rfl,e0,-,-,ex⟩:=H.out.2.2.1.pR hu;rw[hfu]at ex;cases ex;obtain⟨z,hz⟩:=aC (f u);have abX:z<=33:=by rw[<-hz];exact H33.out u
    rw[hz]at e0;have HY:=Hd2 hst (show uV f (5,ys,(u:Int))=z by simp[uV,hz]);clear hst hy hfu hz;gi_wp2;exact⟨⟨k+1,s+z,by omega,by go_num,by go_num,trivial,Hd (by rw[HY.out.1,hR.out,HY.out.2])⟩,by simp[intOf];omega⟩
   have h5b:(yk==5)=false:=beq_eq_false_iff_ne.2 h5;have HY:=Hd2 hst (show uV f (yk,ys,yn)=1 by simp[uV,h5]);clear hst hy h5;gi_wp2;exact⟨⟨k+1,s+1,by omega,by go_num,by go_num,trivial,Hd (by rw[HY.out.1,hR.out,HY.out.2])⟩,by simp[intOf];omega⟩
  ·obtain rfl:k=m:=by omega
   have HE:=Hd (show(ks.map (uV f)).sum=s by have h:=hR.out;exact afr);clear hk hlt;by_cases hge:s<=33
   ·have e1:min (s:Int) 33=(s:Int):=by omega
    have HM:=Hd (show((min ((ks.map (uV f)).sum) 33:Nat):Int)=(s:Int) by rw[HE.out];omega);gi_wp2;go_ret;exact⟨by rw[HM.out];first|rfl|simp[e1],HB.out⟩
   have e1:min (s:Int) 33=33:=by omega
   have HM:=Hd (show((min ((ks.map (uV f)).sum) 33:Nat):Int)=33 by rw[HE.out];omega);gi_wp2;go_ret;exact⟨by rw[HM.out];first|rfl|simp[e1],HB.out⟩
theorem RX:(prog.info? 4).map (fun i=>(i.zero,i.size,i.bytes))=some (some (.bool false),1,1):=by kernel_rfl
theorem Dz:iU 4 (Rep.sz Bool):=iU.mk' RX rfl (by omega)
theorem RY:iU 3 (Rep.sz Int):=iU.mk' qo rfl (by omega)
def Vx(r:aS):Prop:=∀t,t∈r.ties->∀k,k∈t.2->k.1=5->∃u:Nat,k.2.2=(u:Int)/\u<r.ties.length
theorem aaT(hc:xY r=0):Vx r:=by intro t ht k hk h5;obtain⟨h1,h2⟩:=Dl hc;obtain⟨-,-,-,g4⟩:=Dn h1;unfold xX at h2;rw[Bool.and_eq_true,List.all_eq_true]at h2;unfold Yc at g4;rw[Bool.and_eq_true,List.all_eq_true]at g4;have e2:iW (dP r) (dQ r) (jF r) k=k:=of_decide_eq_true (List.all_eq_true.1 (h2.1 t ht) k hk);have e3:=List.all_eq_true.1 (g4.1 t ht) k hk;obtain⟨kd,nm,n⟩:=k;simp only at h5;subst h5;unfold iW at e2;unfold I_ at e3;simp only[if_neg (show ¬(5:Int)=1 by omega),if_neg (show ¬(5:Int)=2 by omega),if_true]at e2 e3;have e4:=of_decide_eq_true e3;have e5:dO (jF r) nm=n:=congrArg (fun x:bK=>x.2.2) e2;have e6:=oW (jF r) nm;rw[List.length_map]at e6;exact⟨n.toNat,by show n=_;omega,by omega⟩
structure yg{α:Type} [kJ α] (e:TypeId)(w u:World)(L:List (Nat×List Value))(v:Value)(k:Nat)(xs:List α)(wr:World):Prop where
 own:bD α e wr [] u.heap.size v k xs
 fr:Fr w wr L
 bb:Below u.heap.size u wr
 hL:∀b vs,(b,vs)∈L->b<u.heap.size
 hW:w.heap.size<=u.heap.size
section
variable {α:Type} [kJ α] {e:TypeId}{w u wr wz:World}{k:Nat}{L:List (Nat×List Value)}{v:Value}{xs:List α}
theorem yg.go(h:yg e w u L v k xs wr)(hb:Below wr.heap.size wr wz):yg e w u L v k xs wz:=⟨h.own.go hb,h.fr.go hb,h.bb.trans (hb.mono h.bb.size),h.hL,h.hW⟩
theorem yg.app{t:TypeId}(h:yg e w u L v k xs wr)(ht:prog.underlying t=some (.slice e))(hi:iU e (Rep.sz α)){x:α}{cs:List Value}(hx:Rep.rd wr (bP v++ []) x cs)(hn:k<=100000):
 ∃v' w',(Builtin.append_ #[t,t] t #[v,.slice (some ⟨wr.heap.size,0,none⟩) 1 1]).run prog (wr.alloc (.cells cs.toArray e))=.ok v' w'/\yg e w u L v' (k+1) (xs++ [x]) w':=by
 obtain⟨v',w',r1,r2,r3,-,-⟩:=h.own.app1 ht hi h.bb.size (b_.nil _) hx hn;exact⟨v',w',r1,r2,h.fr.ZI r3 (fun q hq=>⟨Nat.le_trans h.hW (h.own.lt hq).1,fun b vs hm e=>by have h1:=(h.own.lt hq).1;have h2:=h.hL b vs hm;omega⟩),h.bb.grown r3 h.bb.size (fun q hq=>(h.own.lt hq).1),h.hL,h.hW⟩
theorem yg.lit{w1:World}(h:Fr w w1 L)(e:TypeId):yg (α:=α) e w w1 L (.slice (some ⟨w1.heap.size,0,none⟩) 0 0) 0 [] (w1.alloc (.cells #[] e)):=⟨bD.lit _ _ (Nat.le_refl _),h.go (by exact bel),by exact bel,h.lt,h.bl.size⟩
theorem yg.sl(h:yg e w u L v k xs wr)(hn:k<=100000):∃A c,v=.slice A k c/\Sl α wr [] A k c xs:=h.own.sl (by omega) (fun q hq=>by cases hq)
end
def RZ{α:Type} [kJ α] (e:TypeId)(w u:World)(L:List (Nat×List Value))(F:Nat->List α)(n:Nat)(v i:Value)(wr:World):Prop:=∃k:Nat,k<=n/\i=.int .i64 k/\Hid (yg e w u L v k (F k) wr)
def Yp{α:Type} [Rep α] (w:World)(L:List (Nat×List Value))(F:Nat->List α)(n:Nat)(v i:Value)(wr:World):Prop:=∃(k:Nat) (A:Option Addr) (c:Nat),k<=n/\i=.int .i64 k/\v=.slice A n c/\Hid (Sl α wr [] A n c (F k))/\Hid (Fr w wr L)
attribute [irreducible] RZ Yp
theorem ou{α:Type}(f:Nat->α)(k:Nat):(List.range (k+1)).map f=(List.range k).map f++ [f k]:=by rw[List.range_succ,List.map_append];rfl
theorem yh{α:Type}(f:Nat->α){u:Nat}(h:u<n):((List.range n).map f)[u]?=some (f u):=by simp[h]
theorem aaU{ts:List dA}{x:dA}(h:ts[i]?=some x):vw ts (t+1) i=x.2.any (Dy (vw ts t)):=by rw[vw,h];rfl
set_option maxHeartbeats 8000000 in
theorem Jj{s1 s2 s3 s4 s5 s6 s7:dK}{w:World}(hr:dG w M r s1 s2 s3 s4 s5 s6 s7)(hf:Vx r)(hl:s4.n<=1000):
 Calls prog 62 #[.agg (aV r s1 s2 s3 s4 s5 s6 s7).toArray] w fun e w'=>∃A c,e=.returned (.slice A s4.n c)/\Sl Bool w' [] A s4.n c ((List.range s4.n).map (vw r.ties s4.n))/\Below w.heap.size w w':=by
 refine wid ?_;obtain⟨A4,n,c4⟩:=s4;have h4:Sl dA w M A4 n c4 r.ties:=hr.ties;obtain⟨L,hL⟩:∃L:List (Nat×List Value), [(w.heap.size,aV r s1 s2 s3 ⟨A4,n,c4⟩ s5 s6 s7)]=L:=⟨_,rfl⟩;obtain⟨W1,hW1,F1⟩:=dR ((Fr.nil w).a w.heap.size (aV r s1 s2 s3 ⟨A4,n,c4⟩ s5 s6 s7) 28);have HL:=Hd (show ∀V,Fr w V L->Fr w V [(w.heap.size,aV r s1 s2 s3 ⟨A4,n,c4⟩ s5 s6 s7)]from fun V h=>by rw[hL];exact h);have F1:Fr w W1 L:=by rw[<-hL];exact F1
 obtain⟨W2,hW2⟩:=aC (W1.alloc (.cells #[] 4));have R0:=Hd (show yg (α:=Bool) 4 w W1 L (.slice (some ⟨W1.heap.size,0,none⟩) 0 0) 0 ((List.range 0).map (vw r.ties 0)) W2 by rw[<-hW2];exact yg.lit F1 _);have H:=h_ h4 h4.len hf hl;have HN:n<=1000:=hl;have o1:=aW (HL.out _ F1);have o2:=aW (HL.out _ R0.out.fr);clear F1 h4 hr hf hl hL;refine ent func62 rfl ntmps62 ?_;gi_wp2;gi_loopw[3,4] (fun v i wr=>RZ (α:=Bool) 4 w W1 L (fun k=>(List.range k).map (vw r.ties 0)) n v i wr) (fun _ i _=>n-(intOf i).toNat);case atStart=>unfold RZ;exact⟨0,Nat.zero_le _,rfl,R0⟩
 case round=>
  unfold RZ at hrel;obtain⟨k,hk,rfl,hO⟩:=hrel;have o3:=aW (HL.out _ hO.out.fr);by_cases hlt:k<n
  ·obtain⟨v',wA,r1,R1⟩:=hO.out.app (x:=true) (cs:= [.bool true]) underlying110 Dz rfl (by omega);have HA:=Hd2 r1 R1;have o4:=aW (HL.out _ R1.fr);clear r1 R1
   gi_wp2_with (first
    |(have g:=HA;clear g;gi_at_builtin;refine wpListIn_plain rfl fun K hK'=>?_;have X:=HA.out.1;refine aI _ _ _ rfl rfl rfl X (hK' _ _ ?_);clear hK' K X)
    |fail)
   exact⟨by unfold RZ;exact⟨k+1,by omega,by go_num,Hd (by have h:yg _ _ _ _ _ _ ((List.range k).map (vw r.ties 0)++ [vw r.ties 0 k]) _:=HA.out.2;rw[<-ou]at h;exact h)⟩,by simp[intOf];omega⟩
  ·obtain rfl:k=n:=by omega
   obtain⟨A,c,rfl,hsl⟩:=hO.out.sl (by omega);have T0:=Hd2 hsl hO.out.fr;clear hk hlt hO hsl o1 o2;obtain⟨V0,rfl⟩:∃V,V=wr:=⟨_,rfl⟩;gi_wp2;clear o3;gi_loopw[3,5] (fun v i wr=>Yp (α:=Bool) w L (fun t=>(List.range k).map (vw r.ties t)) k v i wr) (fun _ i _=>k-(intOf i).toNat);case atStart=>unfold Yp;exact⟨0,A,c,Nat.zero_le _,rfl,rfl,Hd T0.out.1,Hd T0.out.2⟩
   case round=>
    unfold Yp at hrel;obtain⟨t,A,c,ht,rfl,rfl,hS,hF⟩:=hrel;have o3:=aW (HL.out _ hF.out);by_cases hlt:t<k
    ·obtain⟨VA,rfl⟩:∃V,V=wr:=⟨_,rfl⟩;obtain⟨VB,hVB⟩:=aC (VA.alloc (.cells #[] 4));have RB:=Hd (show yg (α:=Bool) 4 w VA L (.slice (some ⟨VA.heap.size,0,none⟩) 0 0) 0 ((List.range 0).map (vw r.ties (t+1))) VB by rw[<-hVB];exact yg.lit hF.out _);have o5:=aW (HL.out _ RB.out.fr);gi_wp2;clear o3 o5;gi_loopw[6,7] (fun v i wr=>RZ (α:=Bool) 4 w VA L (fun j=>(List.range j).map (vw r.ties (t+1))) k v i wr) (fun _ i _=>k-(intOf i).toNat);case atStart=>unfold RZ;exact⟨0,Nat.zero_le _,rfl,RB⟩
     case round=>
      unfold RZ at hrel;obtain⟨j,hj,rfl,hO⟩:=hrel;have o3:=aW (HL.out _ hO.out.fr);by_cases hlj:j<k
      ·obtain⟨x,hx⟩:=dW r.ties j (by rw[H.out.2.1];exact hlj);obtain⟨b,o,B,m',d',rfl,⟨p0,p1⟩,hks⟩:=(H.out.1.go hO.out.fr.bl).n_ hx;have HC:=Hd (Oo (nm:=x.1) (vw r.ties t) hks (hS.out.go hO.out.bb) (fun u hu=>yh _ hu) (fun y hy h5=>by
        exact afV))
       obtain⟨z,hz⟩:=aC (x.2.any (Dy (vw r.ties t)));have HZ:=Hd ((aaU (t:=t) hx).trans hz);rw[hz]at HC;clear hx hks hz
       gi_wp2_with (first
        |(have g:=HA;clear g;gi_at_builtin;refine wpListIn_plain rfl fun K hK'=>?_;have X:=HA.out.1;refine aI _ _ _ rfl rfl rfl X (hK' _ _ ?_);clear hK' K X)
        |(refine Cl 121 HC.out ?_;rintro e w3 ⟨rfl,hb3⟩;obtain⟨v',wA,r1,R1⟩:=(hO.out.go hb3).app (x:=z) (cs:= [.bool z]) underlying110 Dz rfl (by omega);have HA:=Hd2 r1 R1;have o4:=aW (HL.out _ R1.fr);clear r1 R1 hb3)
        |fail)
       exact⟨by unfold RZ;exact⟨j+1,by omega,by go_num,Hd (by have h:=HA.out.2;rw[<-HZ.out,<-ou]at h;exact h)⟩,by simp[intOf];omega⟩
      ·obtain rfl:j=k:=by omega
       exact afe
    ·obtain rfl:t=k:=by omega
     exact agl
end
end Go.Proofs.YtlcgbfkdnmdigaaGreatDoor
