/- Lemmas and walks; no statement is proved here. -/
import Derived.Test.YtefnknhjlejalaaGreatDoorRows
import Derived.JoinedOf
import Derived.Test.YtefnknhjlejalaaGreatDoorTie
import Derived.Test.YtefnknhjlejalaaGreatDoorCards
import Derived.LaidMore
import Derived.Stop.Joined
import Derived.Stop.LaidErr
import Derived.SevenTiedAt
import Derived.Test.YtefnknhjlejalaaGreatDoorM49
set_option linter.unusedVariables false
set_option linter.unusedSimpArgs false
set_option maxRecDepth 20000
set_option maxHeartbeats 6000000
namespace Go.Proofs.YtefnknhjlejalaaGreatDoor
theorem agF{p:Prop}(h:p:=by have h1:=List.all_eq_true.1 hs j (by rw[hr];exact hj);have h2:=h j (by simpa using h1);unfold ND at h2;exact h2 (by rw[hr];simpa using hj)):p:=h
theorem agG{p:Prop}(h:p:=by
 cases hc:Region.ready .any ops listed with
 |nil=>rw[hc]at hne;cases hne
 |cons i r=>exact⟨i,r,rfl⟩):p:=h
theorem agH{p:Prop}(h:p:=by
 cases Y with
 |none=>cases hq
 |some y=>rw[show q=y by simpa[YY]using hq];exact h.yr.2.1):p:=h
theorem agI{p:Prop}(h:p:=by simp[Value.cells]at e;obtain⟨rfl,rfl,rfl⟩:=e;exact⟨A,n,c,xs,rfl,hs⟩):p:=h
variable {L M:List Nat}{A B:Option Addr}{E op:Int}{q:List InsR}{x:RatR}{y j:Nat}{R:List Rt}
theorem agu{a b:Rt}(ha:a.ok)(hb:b.ok)(h:rv a=rv b):a=b:=by have h1:=ha.pos;have h2:=hb.pos;exact X_ ha hb ((Rat.divInt_eq_divInt_iff (by omega) (by omega)).1 h)
theorem agw{a b:Rt}(ha:a.ok)(hb:b.ok):rv a<=rv b↔a.num*b.den<=b.num*a.den:=by have h1:=ha.pos;have h2:=hb.pos;rw[Rat.le_iff_sub_nonneg];unfold rv;rw[Rat.divInt_sub_divInt _ _ (by omega) (by omega),Rat.divInt_nonneg_iff_of_pos_right (Int.mul_pos h2 h1)];omega
section
variable {a b c d r:Rt}
theorem agb(ha:a.ok)(hb:b.ok):rW a b<=0↔rv a<=rv b:=by
 rw[agw ha hb];unfold rW
 repeat' split
 all_goals omega
end
section
open Go.RowKit Go.Shelf
section
variable {F:Fence}{n:Nat}{P:Program}{Mr:List Nat}{Q:Exit→Act→World→Prop}
def af6(F:Fence)(n:Nat)(P:Program)(Mr:List Nat)(ops:Array Oper)(Q:Exit->Act->World->Prop)(n0 f:Nat)(listed:Array Bool)(a:Act)(w:World)(L:List Nat):Prop:=∀i,i∈L->ND F n P Mr ops Q n0 f listed a w i
section
variable {ops:Array Oper}{n0 f:Nat}{listed:Array Bool}{a:Act}{w:World}
theorem A_n:af6 F n P Mr ops Q n0 f listed a w []:=fun _ h=>by cases h
theorem A_c{i:Nat}(h:ND F n P Mr ops Q n0 f listed a w i)(r:af6 F n P Mr ops Q n0 f listed a w L):af6 F n P Mr ops Q n0 f listed a w (i::L):=fun j hj=>by
 rcases List.mem_cons.1 hj with e|e;·subst e;exact h
 exact r j e
theorem afI(L:List Nat)(h:af6 F n P Mr ops Q n0 f listed a w L)(hs:((Region.ready .any ops listed).all fun i=>L.contains i)=true:=by kernel_rfl)(hne:(Region.ready .any ops listed).isEmpty=false:=by kernel_rfl):nH F n P Mr ops Q n0 (f+1) listed a w:=by
 obtain⟨i,r,hr⟩:∃i r,Region.ready .any ops listed=i::r:=by exact agG
 have key:∀j,j∈i::r->j<n0/\wpOpIn F n P ops Q j (fun a' w'=>Keeps Mr w w'/\nH F n P Mr ops Q n0 f (listed.setIfInBounds j true) a' w') a w:=fun j hj=>by exact agF
 unfold nH at key |-;refine⟨by rw[hr];simp,?_⟩;rw[hr];exact key
end
end
namespace U
section
variable {F:Fence}{n:Nat}{P:Program}{Mr:Nat}{Q:Exit→Act→World→Prop}
def af6(F:Fence)(n:Nat)(P:Program)(Mr:Nat)(ops:Array Oper)(Q:Exit->Act->World->Prop)(n0 f:Nat)(listed:Array Bool)(a:Act)(w:World)(L:List Nat):Prop:=∀i,i∈L->ND F n P Mr ops Q n0 f listed a w i
section
variable {ops:Array Oper}{n0 f:Nat}{listed:Array Bool}{a:Act}{w:World}
theorem A_n:af6 F n P Mr ops Q n0 f listed a w []:=fun _ h=>by cases h
theorem A_c{i:Nat}(h:ND F n P Mr ops Q n0 f listed a w i)(r:af6 F n P Mr ops Q n0 f listed a w L):af6 F n P Mr ops Q n0 f listed a w (i::L):=fun j hj=>by
 rcases List.mem_cons.1 hj with e|e;·subst e;exact h
 exact r j e
theorem afI(L:List Nat)(h:af6 F n P Mr ops Q n0 f listed a w L)(hs:((Region.ready .any ops listed).all fun i=>L.contains i)=true:=by kernel_rfl)(hne:(Region.ready .any ops listed).isEmpty=false:=by kernel_rfl):U.nH F n P Mr ops Q n0 (f+1) listed a w:=by
 obtain⟨i,r,hr⟩:∃i r,Region.ready .any ops listed=i::r:=by exact agG
 have key:∀j,j∈i::r->j<n0/\wpOpIn F n P ops Q j (fun a' w'=>U.Keeps Mr w w'/\U.nH F n P Mr ops Q n0 f (listed.setIfInBounds j true) a' w') a w:=fun j hj=>by exact agF
 unfold U.nH at key |-;refine⟨by rw[hr];simp,?_⟩;rw[hr];exact key
end
end
end U
def agd(M:List Nat)(r:RatR)(L E:Int)(w:World)(e:Ending)(w':World):Prop:=∃u,e=.returned (.tuple #[u,.int .i64 L,.int .i64 E])/\RV w' M u r/\Below w.heap.size w w'
theorem afN{n c m d:Nat}{p:List InsR}{l:List RatR}{fuel L:Int}{r:RatR}{w:World}(h:FwR p l)(hM:b_ M w)(hp:Sl InsR w M A n c p)(hl:Sl RatR w M B m d l)(hf:i64 fuel)(hE:oC p l fuel=E)(hL:aat p l fuel=L)(hV:Bj p l fuel=r):
 Calls Tryz.prog 9 #[.slice A n c,.slice B m d,.int .i64 fuel] w (agd M r L E w):=by
 subst hE hL hV;exact RY h hM hp hl hf
end
theorem afY{m:Int}:∀{p q:List InsR}{i:Int},iy m i p=true->iy m (i+(p.length:Int)) q=true->iy m i (p++q)=true
 | [],_,i,_,h=>by simpa using h
 |x::p,q,i,h,h2=>by
  simp only[iy,Bool.and_eq_true,List.cons_append]at h |-;refine⟨h.1,afY h.2 ?_⟩
  rwa [List.length_cons,show i+((p.length+1:Nat):Int)=i+1+(p.length:Int) by omega]at h2
theorem agm{p:List InsR}{m:Int}(h1:1<=p.length)(h2:p.length<=4096)(h:iy m 0 p=true):fC p m=0:=(yj p m).2 ⟨⟨h1,h2⟩,h⟩
def afC(op a b c d:Int):InsR:=(op,a,b,c,d,((false, []),(false, [])))
theorem afH(op a b c d:Int):Few3 (afC op a b c d).2.2.2.2.2:=⟨by simp[afC],by simp[afC]⟩
theorem afD{a b i m:Int}(ho:op=3\/op=6\/op=7)(ha:bf a i=true)(hb:bf b i=true):aj i m (afC op a b 0 0)=true:=by rcases ho with rfl|rfl|rfl<;>simp[aj,afC,ha,hb,kW]
theorem af5{a b c d i m:Int}(ha:bf a i=true)(hb:bf b i=true)(hc:bf c i=true)(hd:bf d i=true):aj i m (afC 8 a b c d)=true:=by simp[aj,afC,ha,hb,hc,hd,kW]
theorem agf{p:List InsR}{m:Int}(h:fC p m=0)(hl:(p++q).length<=4096)(hq:iy m (p.length:Int) q=true):fC (p++q) m=0:=by obtain⟨⟨h1,-⟩,h3⟩:=(yj p m).1 h;exact agm (by rw[List.length_append];omega) hl (afY h3 (by rwa [Int.zero_add]))
theorem af8(p:List InsR)(ins:List Rt)(x:InsR):zJ (p++ [x]) ins=rG ins (jf ins [] p) x:=by unfold zJ;rw[uZ,List.length_append,List.length_singleton];unfold aW;have hl:=AA ins p [];rw[List.length_nil,Nat.zero_add]at hl;rw[show(((p.length+1:Nat):Int)-1).toNat=(jf ins [] p).length by omega];simp
theorem agh(p:List InsR)(ins:List Rt)(x y:InsR):jf ins [] (p++ [x,y])=jf ins [] p++ [rG ins (jf ins [] p) x]++ [rG ins (jf ins [] p++ [rG ins (jf ins [] p) x]) y]:=by rw[show p++ [x,y]=(p++ [x])++ [y] by simp,uZ,uZ]
theorem cmp_eq{a b:Rt}(ha:a.ok)(hb:b.ok)(h:rW a b=0):a=b:=by refine agu ha hb ?_;have h1:=(agb ha hb).1 (by omega);have h2:=(agb hb ha).1 (by rw[Ir];omega);exact Rat.le_antisymm h1 h2
theorem agn(a b:Rt):(if rW a b<=0 then a else b)=yc a b:=by
 unfold yc;rw[Ir a b];by_cases h:rW a b<=0;·rw[if_pos h,if_neg (by omega)]
 rw[if_neg h,if_pos (by omega)]
theorem agp{a b:Rt}(ha:a.ok)(hb:b.ok):(if rW a b<=0 then b else a)=yh a b:=by
 unfold yh;by_cases h:rW a b<=0
 ·rw[if_pos h];by_cases h2:rW a b<0;·rw[if_pos h2]
  rw[if_neg h2];exact(cmp_eq ha hb (by omega)).symm
 rw[if_neg h,if_neg (by omega)]
theorem add_comm(a b:Rt):Js a b=Js b a:=by unfold Js;rw[Int.add_comm,Int.mul_comm a.den]
theorem agq{a b:Rt}(ha:a.ok)(hb:b.ok):Js (yc a b) (yh a b)=Js a b:=by
 unfold yc yh;rw[Ir a b];by_cases h:rW a b<0;·rw[if_neg (by omega),if_pos h]
 rw[if_neg h];by_cases h2:0<rW a b;·rw[if_pos (by omega)];exact add_comm b a
 rw[if_neg (by omega)];have:=cmp_eq ha hb (by omega);rw[this]
def afJ(l:List RatR):Int:=if l.all dF=true then 0 else 100
theorem agr{p:List InsR}{l:List RatR}{f:Int}(hc:fC p l.length=0)(hf:(p.length:Int)<=f):oC p l f=afJ l:=by unfold oC afJ;rw[if_pos hc,if_neg (show ¬f<(p.length:Int) by omega)]
theorem agt{p:List InsR}{l:List RatR}{f:Int}(h:oC p l f=0):Bj p l f=jd (zJ p (l.map OE)):=by rw[Bj,if_pos h]
theorem FwR.of{p:List InsR}{l:List RatR}(h:FwR p l)(hp:p.length<=64)(hq:q.length<=64)(hs:∀x,x∈q->x∈p\/Few3 x.2.2.2.2.2):FwR q l:=⟨.inl hq,fun _ x hx=>(hs x hx).elim (fun e=>h.fp hp x e) id,h.nl,h.fl⟩
theorem Fw19.short{p:List InsR}{l:List RatR}{m:Int}(h:Fw19 p l)(hc:fC p m=0):1<=p.length/\p.length<=60:=by have h1:=((yj p m).1 hc).1;have h2:=h.np;omega
theorem afB{k:Nat}{i:Int}(h:(k:Int)<i):bf k i=true:=decide_eq_true ⟨by omega,h⟩
def mo1(p:List InsR)(k:Nat):List InsR:=p.take (k+1)++ [afC 6 k k 0 0]
structure agx(p:List InsR)(l:List RatR)(k:Nat):Prop where
 c1:fC (p.take (k+1)) l.length=0
 c2:fC p ((l.length:Int)+1)=0
 w1:FwR (p.take (k+1)) l
 w2:FwR (mo1 p k) l
 e1:oC (p.take (k+1)) l 100=afJ l
 e2:oC (mo1 p k) l 100=afJ l
 l1:afJ l=0->aat (p.take (k+1)) l 100=100-((k+1:Nat):Int)
 l2:afJ l=0->aat (mo1 p k) l 100=100-((k+1:Nat):Int)-1
 v:afJ l=0->Bj (mo1 p k) l 100=Bj (p.take (k+1)) l 100
theorem agi(l:List RatR):afJ l=0\/afJ l=100:=by unfold afJ;split<;>simp
theorem agx.ex{p:List InsR}{l:List RatR}{k:Nat}(h:agx p l k):∃E L1 L2 r1 r2,oC (p.take (k+1)) l 100=E/\oC (mo1 p k) l 100=E/\aat (p.take (k+1)) l 100=L1/\aat (mo1 p k) l 100=L2/\Bj (p.take (k+1)) l 100=r1/\Bj (mo1 p k) l 100=r2/\
 ((E=0/\L1=100-((k+1:Nat):Int)/\L2=100-((k+1:Nat):Int)-1/\r2=r1)\/E=100):=by
 refine⟨_,_,_,_,_,h.e1,h.e2,rfl,rfl,rfl,rfl,?_⟩;rcases agi l with e|e;·exact .inl ⟨e,h.l1 e,h.l2 e,h.v e⟩
 ·exact .inr e
section
open Go.RowKit Go.Shelf
attribute [local go_sem] Oper.semAt_some
theorem af9{a:Int}(h0:0<=a){n:Nat}(hn:0<n):∃k:Nat,k<n/\a.tmod (n:Int)=(k:Int):=by have h1:0<=a.tmod (n:Int):=Int.tmod_nonneg _ h0;have h2:a.tmod (n:Int)<(n:Int):=Int.tmod_lt_of_pos _ (by omega);exact⟨(a.tmod (n:Int)).toNat,by omega,by omega⟩
theorem afG{w:World}{a b c d:Int}(hi:i64 op/\i64 a/\i64 b/\i64 c/\i64 d):Rep.rd w M (afC op a b c d) [.int .i64 op,.int .i64 a,.int .i64 b,.int .i64 c,.int .i64 d,.bool false,.slice none 0 0,.bool false,.slice none 0 0]:=zM (r:=((false, []),(false, []))) hi Sl.nil0 Sl.nil0
end
section
namespace U
open Go.RowKit Go.Shelf
attribute [local go_sem] Oper.semAt_some
theorem afO{w:World}{v:Value}{b:Nat}(h:RV w M v x)(hb:w.heap.size<=b):RV w (b::M) v x:=by obtain⟨A',n',c',B',m',d',rfl,h1,h2⟩:=h;exact⟨_,_,_,_,_,_,rfl,h1.more hb,h2.more hb⟩
structure NmH(V W:World)(v:Value)(m y:Nat)(l:List RatR)(oc:List Value):Prop where
 own:bD RatR 30 W [] V.heap.size v m l
 row:gG W y oc 30
 ne:y∉bP v
 bl:Below V.heap.size V W
theorem NmH.app{V W:World}{v:Value}{m:Nat}{l:List RatR}{o:RatR}{oc:List Value}(h:NmH V W v m y l oc)(ho:Rep.rd V [] o oc)(hm:m<=100):
 ∃g c w',(Builtin.append_ #[23,23] 23 #[v,.slice (some ⟨y,0,none⟩) 1 1]).run Tryz.prog W=.ok (.slice (some ⟨g,0,none⟩) (m+1) c) w'/\bD RatR 30 w' [] V.heap.size (.slice (some ⟨g,0,none⟩) (m+1) c) (m+1) (l++ [o])/\Below V.heap.size V w'/\Keeps V.heap.size W w':=by
 obtain⟨i,z,i1,i2,i3,i4,i5⟩:=Iq;have hy:Sl RatR W (bP v++ []) (some ⟨y,0,none⟩) 1 1 [o]:=by
  refine⟨rfl,Nat.le_refl _,by unfold jG;omega,by omega,.inr ⟨y,0,rfl,fun k x hk=>?_⟩⟩
  match k,hk with
  |0,hk=>
   cases hk;refine⟨oc,?_,by simpa using h.ne,fun j u hu=>?_⟩
   ·rcases h.own.ex with⟨cs,h1,-⟩;rcases h1.2 with⟨rfl,-⟩|⟨g,cap,cur,rfl,hg,-⟩;·simpa[bP,Value.ownBlock]using Rep.keep ho (Go.Proofs.YtefnknhjlejalaaGreatDoor.Keeps.of_below h.bl _)
    exact Rep.keep (Rep.more ho hg) (Go.Proofs.YtefnknhjlejalaaGreatDoor.Keeps.of_below h.bl _)
   ·simpa using h.row.cell hu
 obtain⟨v',w',r1,r2,r3,-⟩:=h.own.uy (t:=23) (ty:=23) h.bl.size Tryz.underlying23 i1 i2 i3 i4 hy (Nat.le_trans (Nat.mul_le_mul (show m+1<=1000 by omega) i5) (by decide)) (by omega);obtain⟨g,c,rfl⟩:=qA r2 (by omega);exact⟨g,c,w',r1,r2,h.bl.grown r3 h.bl.size (fun k hk=>(h.own.lt hk).1),⟨r3.size,fun k hk hs=>r3.block k hk (fun e=>by have:=(h.own.lt e.symm).1;omega)⟩⟩
end U
end
theorem afX{p:List InsR}{l:List RatR}(hw:Fw19 p l)(hc:fC p l.length=0)(ho:l.all dF=true){i:Nat}(hi:i<p.length):(aW (jf (l.map OE) [] p) (i:Int)).ok:=by obtain⟨h1,h60⟩:=hw.short hc;have hr:=((yj p _).1 hc).2;have hR:=AL (RX (by have:=hw.nl;omega) hw.fl ho) (p:=p) (by rw[List.length_map];exact hr) (hw.r.fp (by omega)) (by omega) p.length (Nat.le_refl _);rw[List.take_of_length_le (Nat.le_refl _)]at hR;have hA:=(hR.all (by omega)).right;have hl:=AA (l.map OE) p [];rw[List.length_nil,Nat.zero_add]at hl;exact(hA.ref (decide_eq_true ⟨by omega,by rw[hl];omega⟩)).1
structure afZ(p q:List InsR)(l:List RatR)(r:Rt):Prop where
 w:FwR (p++q) l
 e:oC (p++q) l 1000=afJ l
 v:l.all dF=true->zJ (p++q) (l.map OE)=r
theorem agc{l:List RatR}:afJ l=0↔l.all dF=true:=by
 unfold afJ;by_cases h:l.all dF=true;·rw[if_pos h];simp[h]
 rw[if_neg h];simp[h]
theorem agj{p:List InsR}{l:List RatR}{r:Rt}(hw:Fw19 p l)(hc:fC p l.length=0)(hn:p.length<=50)(hq:q.length<=3)(hf:∀x,x∈q->Few3 x.2.2.2.2.2)(hr:iy l.length (p.length:Int) q=true)(hv:l.all dF=true->zJ (p++q) (l.map OE)=r):afZ p q l r:=by
 have hl:(p++q).length<=53:=by rw[List.length_append];omega
 refine⟨hw.r.of (by omega) (by omega) fun x hx=>?_,agr (agf hc (by omega) hr) (by omega),hv⟩;rcases List.mem_append.1 hx with hx|hx;·exact .inl hx
 exact .inr (hf x hx)
def afK(p:List InsR)(l:List RatR)(i:Nat):Rt:=aW (jf (l.map OE) [] p) (i:Int)
theorem af0{p:List InsR}{l:List RatR}(hw:Fw19 p l)(hc:fC p l.length=0)(hn:p.length<=50){x:InsR}{r:Rt}(hf:Few3 x.2.2.2.2.2)(hr:aj (p.length:Int) l.length x=true)(hv:l.all dF=true->rG (l.map OE) (jf (l.map OE) [] p) x=r):afZ p [x] l r:=agj hw hc hn (by simp) (fun y hy=>by rw[List.mem_singleton]at hy;subst hy;exact hf) (by rw[iy,iy,Bool.and_true];exact hr) (fun h=>by rw[af8];exact hv h)
theorem af7{T:List Rt}(h:j<R.length):aW (R++T) (j:Int)=aW R (j:Int):=by unfold aW;rw[Int.toNat_natCast,List.getD_eq_getElem?_getD,List.getD_eq_getElem?_getD,List.getElem?_append_left h]
theorem af_{x:Rt}(h:j=R.length):aW (R++ [x]) (j:Int)=x:=by subst h;unfold aW;simp
section
variable {p:List InsR}{l:List RatR}{i k:Nat}(hw:Fw19 p l)(hc:fC p l.length=0)(hn:p.length≤50)(hi:i<p.length)(hk:k<p.length)
include hw hc hn hi hk
theorem agy:afZ p [afC 6 i k 0 0] l (yc (afK p l i) (afK p l k)):=af0 hw hc hn (afH _ _ _ _ _) (afD (.inr (.inl rfl)) (afB (by omega)) (afB (by omega))) (fun _=>rfl)
theorem agz:afZ p [afC 8 i k i k] l (yc (afK p l i) (afK p l k)):=af0 hw hc hn (afH _ _ _ _ _) (af5 (afB (by omega)) (afB (by omega)) (afB (by omega)) (afB (by omega))) (fun _=>agn _ _)
theorem agA:afZ p [afC 7 i k 0 0] l (yh (afK p l i) (afK p l k)):=af0 hw hc hn (afH _ _ _ _ _) (afD (.inr (.inr rfl)) (afB (by omega)) (afB (by omega))) (fun _=>rfl)
theorem agB:afZ p [afC 8 i k k i] l (yh (afK p l i) (afK p l k)):=af0 hw hc hn (afH _ _ _ _ _) (af5 (afB (by omega)) (afB (by omega)) (afB (by omega)) (afB (by omega))) (fun h=>agp (afX hw hc h hi) (afX hw hc h hk))
theorem agC:afZ p [afC 3 i k 0 0] l (Js (afK p l i) (afK p l k)):=af0 hw hc hn (afH _ _ _ _ _) (afD (.inl rfl) (afB (by omega)) (afB (by omega))) (fun _=>rfl)
theorem agD:afZ p [afC 6 i k 0 0,afC 7 i k 0 0,afC 3 p.length ((p.length:Int)+1) 0 0] l (Js (afK p l i) (afK p l k)):=by
 refine agj hw hc hn (by simp) (fun y hy=>?_) ?_ (fun h=>?_);·simp only[List.mem_cons,List.not_mem_nil,or_false]at hy;rcases hy with rfl|rfl|rfl<;>exact afH _ _ _ _ _
 ·simp only[iy,Bool.and_true,Bool.and_eq_true];refine⟨afD (.inr (.inl rfl)) (afB (by omega)) (afB (by omega)),afD (.inr (.inr rfl)) (afB (by omega)) (afB (by omega)),afD (.inl rfl) (afB (by omega)) (decide_eq_true ⟨by omega,by omega⟩)⟩
 rw[show p++ [afC 6 i k 0 0,afC 7 i k 0 0,afC 3 p.length ((p.length:Int)+1) 0 0]=(p++ [afC 6 i k 0 0,afC 7 i k 0 0])++ [afC 3 p.length ((p.length:Int)+1) 0 0] by simp,af8,agh];have hl:=AA (l.map OE) p [];rw[List.length_nil,Nat.zero_add]at hl;obtain⟨R,hR⟩:=aC (jf (l.map OE) [] p);have e1:afK p l i=aW R (i:Int):=by rw[afK,hR]
 have e2:afK p l k=aW R (k:Int):=by rw[afK,hR]
 have o1:=afX hw hc h hi;have o2:=afX hw hc h hk;rw[hR]at hl o1 o2 |-;rw[e1,e2];have hx:rG (l.map OE) R (afC 6 i k 0 0)=yc (aW R (i:Int)) (aW R (k:Int)):=rfl;rw[hx];have hy:∀s:Rt,rG (l.map OE) (R++ [s]) (afC 7 i k 0 0)=yh (aW R (i:Int)) (aW R (k:Int)):=fun s=>by show yh (aW (R++ [s]) (i:Int)) (aW (R++ [s]) (k:Int))=_;rw[af7 (by omega),af7 (by omega)]
 rw[hy];show Js (aW (R++ [_]++ [_]) (p.length:Int)) (aW (R++ [_]++ [_]) ((p.length:Int)+1))=_;rw[af7 (by simp;omega),af_ (by omega),show((p.length:Int)+1)=((p.length+1:Nat):Int) by omega,af_ (by simp;omega)];exact agq o1 o2
end
section
namespace U
open Go.RowKit Go.Shelf
attribute [local go_sem] Oper.semAt_some
def afz(V wc:World)(v:Value):Option Nat->Prop
 |none=>True
 |some y=>gG wc y [.bool false,.slice none 0 0,.bool false,.slice none 0 0] 30/\V.heap.size<=y/\y∉bP v
def YY:Option Nat->List Nat
 |none=> []
 |some y=> [y]
def afy(b:Nat)(Y:Option Nat):List Nat:=YY Y++ [b]
abbrev z4:List Value:= [.bool false,.slice none 0 0,.bool false,.slice none 0 0]
theorem agk{W:World}{b:Nat}(R:gG W b z4 30)(p q:Bool)(A B:Option Addr)(n c m d:Nat):
 ∃V,(Instr.storeAt 30 (.pointer (some ⟨b,0,none⟩)) (.agg #[.bool p,.slice A n c,.bool q,.slice B m d])).run Tryz.prog W=.ok () V/\gG V b [.bool p,.slice A n c,.bool q,.slice B m d] 30/\Go.Proofs.YtefnknhjlejalaaGreatDoor.Keeps [b] W V/\∀s w,s<=b->Below s w W->Below s w V:=by
 obtain⟨V,hV⟩:=aC (W.setRow b #[.bool p,.slice A n c,.bool q,.slice B m d]);refine⟨V,?_,?_,?_,?_⟩;·rw[<-hV];show(storeVar _ _ _).run _ _=_;exact run_storeVar_row W b 30 30 z4.toArray _ R Qk rfl (by simp[Value.oneCell'])
 ·rw[<-hV];exact setRow_heap W b _ _ 30 (0,0) R
 ·rw[<-hV];exact⟨by simp[World.setRow],fun k _ hk=>by rw[setRow_other W b k _ (by simpa using hk)]⟩
 ·rw[<-hV];exact fun s w hs hb=>hb.trans ⟨rfl,rfl,rfl,by simp[World.setRow],fun k hk=>setRow_other W b k _ (by omega)⟩
theorem ags{α:Type} [kJ α] {e:TypeId}{w:World}{base:Nat}{v:Value}{n:Nat}{xs:List α}(h:bD α e w M base v n xs)(hn:n<=1000000000)(hd:∀k,k∈M->k∉bP v):∃A c,v=.slice A n c/\Sl α w M A n c xs:=by
 obtain⟨cs,h1,h2⟩:=h.ex;rcases h1.2 with⟨rfl,rfl⟩|⟨g,cap,cur,rfl,hb,hh,hnc,hcm,hsz,htk⟩;·have:xs= []:=List.length_eq_zero_iff.1 h.len;subst this;exact⟨none,0,rfl,Sl.nil0⟩
 refine⟨_,cap,rfl,h.len,hnc,by simpa[jG,maxLen]using hcm,by omega,.inr ⟨g,0,rfl,fun k x hk=>?_⟩⟩;obtain⟨es,a,b⟩:=h2 k x hk;refine⟨es,Rep.less a (fun q hq=>List.mem_append_right _ hq),fun hm=>hd g hm (bJ.2 rfl),fun j u hu=>?_⟩;have h3:=b j u hu;have hlt:=(List.getElem?_eq_some_iff.1 h3).1;have:=h1.1;rw[<-htk,List.getElem?_take_of_lt (by omega),Array.getElem?_toList]at h3;simp[World.cell?,hh,h3]
theorem afP{w w':World}{v:Value}(h:RV w M v x)(k:Go.Proofs.YtefnknhjlejalaaGreatDoor.Keeps M w w'):RV w' M v x:=by obtain⟨A,n,c,B,m,d,rfl,h1,h2⟩:=h;exact⟨A,n,c,B,m,d,rfl,h1.keep k,h2.keep k⟩
structure afF(V wc:World)(b:Nat)(Y:Option Nat)(v:Value)(m:Nat)(xs:List InsR):Prop where
 bl:Below V.heap.size V wc
 own:bD InsR 38 wc (afy b Y) V.heap.size v m xs
 yr:afz V wc v Y
 lb:b<V.heap.size
section
variable {V wc w':World}{b:Nat}{Y:Option Nat}{v:Value}{m:Nat}{xs ys:List InsR}
theorem afF.go(h:afF V wc b Y v m xs)(hb:Below wc.heap.size wc w'):afF V w' b Y v m xs:=by
 refine⟨h.bl.trans (hb.mono h.bl.size),h.own.go hb,?_,h.lb⟩
 cases Y with
 |none=>exact trivial
 |some y=>exact⟨h.yr.1.go hb h.yr.1.lt,h.yr.2⟩
theorem afF.lit(h:afF V wc b Y v m xs):afF V (wc.alloc (.cells #[] 38)) b Y (.slice (some ⟨wc.heap.size,0,none⟩) 0 0) 0 []:=by
 have h2:=h.go (w':=wc.alloc (.cells #[] 38)) (by exact bel);refine⟨h2.bl,bD.lit wc _ h.bl.size,?_,h.lb⟩;have hy:=h2.yr
 cases Y with
 |none=>exact trivial
 |some y=>exact⟨hy.1,hy.2.1,fun hm=>by have e1:=h.yr.1.lt;rw[bJ]at hm;have e:wc.heap.size=y:=Option.some.inj hm;omega⟩
theorem afF.var(h:afF V wc b none v m xs):afF V (wc.alloc (.cells #[.bool false,.slice none 0 0,.bool false,.slice none 0 0] 30)) b (some wc.heap.size) v m xs:=by have h2:=h.go (w':=wc.alloc (.cells #[.bool false,.slice none 0 0,.bool false,.slice none 0 0] 30)) (by exact bel);exact⟨h2.bl,(bD.aaD h.own (Nat.le_refl _)).go (by exact bel),⟨heap_alloc_new wc _,h.bl.size,fun hm=>by have:=(h.own.lt (bJ.1 hm)).2;omega⟩,h.lb⟩
theorem afF.app{n c:Nat}(h:afF V wc b Y v m xs)(hs:Sl InsR V [b] A n c ys)(hn:m+n<=1000):
 ∃A' c' w',(Builtin.append_ #[22,22] 22 #[v,.slice A n c]).run Tryz.prog wc=.ok (.slice A' (m+n) c') w'/\afF V w' b Y (.slice A' (m+n) c') (m+n) (xs++ys)/\Keeps V.heap.size wc w':=by
 obtain⟨i,z,i1,i2,i3,i4,i5⟩:=MK;obtain⟨v',w',r1,r2,r3,r4⟩:=h.own.uy (t:=22) (ty:=22) h.bl.size Tryz.underlying22 i1 i2 i3 i4 (by
  have:=(hs.moreL (bP v++YY Y) (fun q hq=>?_)).go h.bl;·rwa [List.append_assoc]at this
  rcases List.mem_append.1 hq with hq|hq;·exact(h.own.lt (bJ.1 hq)).1
  exact agH) (Nat.le_trans (Nat.mul_le_mul hn i5) (by decide)) (by omega)
 obtain⟨A',c',rfl⟩:=r2.shape;refine⟨A',c',w',r1,⟨h.bl.grown r3 h.bl.size (fun k hk=>(h.own.lt hk).1),r2,?_,h.lb⟩,⟨r3.size,fun k hk hs=>r3.block k hk (fun e=>by have:=(h.own.lt e.symm).1;omega)⟩⟩
 cases Y with
 |none=>exact trivial
 |some y=>
  have hy:=h.yr;refine⟨hy.1.grown r3 (fun e=>hy.2.2 (bJ.2 e)),hy.2.1,fun hm=>?_⟩;rw[bJ]at hm;rcases r4 with e|e;·exact hy.2.2 (bJ.2 (e▸hm))
  ·rw[e]at hm;have:=Option.some.inj hm;have:=hy.1.lt;omega
theorem afF.arg(h:afF V wc b Y v m xs)(hm:m<=1000):∃A c,v=.slice A m c/\Sl InsR wc (afy b Y) A m c xs:=by
 refine ags h.own (by omega) fun k hk=>?_;rcases List.mem_append.1 hk with hk|hk
 ·cases Y with
  |none=>cases hk
  |some y=>rw[show k=y by simpa[YY]using hk];exact h.yr.2.2
 rw[show k=b by simpa using hk];intro hm;have e1:=(h.own.lt (bJ.1 hm)).1;have e2:=h.lb;omega
theorem afF.bel(h:afF V wc b Y v m xs):b_ (afy b Y) wc:=by
 intro k hk;rcases List.mem_append.1 hk with hk|hk
 ·cases Y with
  |none=>cases hk
  |some y=>rw[show k=y by simpa[YY]using hk];exact h.yr.1.lt
 rw[show k=b by simpa using hk];have e1:=h.bl.size;have e2:=h.lb;omega
theorem afF.regs{α:Type} [kE α] {n c:Nat}{xs':List α}(h:afF V wc b Y v m xs)(hs:Sl α V [b] A n c xs'):Sl α wc (afy b Y) A n c xs':=by refine(hs.moreL (YY Y) (fun q hq=>?_)).go h.bl;exact agH
theorem aga{w V:World}{b s:Nat}{n c m d:Nat}{p q:Bool}{u0 u1 u2 u3:Value}(h0:V.cell? ⟨b,0,none⟩=some u0)(h1:V.cell? ⟨b,1,none⟩=some u1)(h2:V.cell? ⟨b,2,none⟩=some u2)(h3:V.cell? ⟨b,3,none⟩=some u3)(hu:RV V [b] (.agg #[.bool p,.slice A n c,.bool q,.slice B m d]) x)(hb:Below s w V)(hsb:s<=b):
 ∃wF,(((V.setCell ⟨b,0,none⟩ (.bool p)).setCell ⟨b,1,none⟩ (.slice A n c)).setCell ⟨b,2,none⟩ (.bool q)).setCell ⟨b,3,none⟩ (.slice B m d)=wF/\
  wF.cell? ⟨b,0,none⟩=some (.bool p)/\wF.cell? ⟨b,1,none⟩=some (.slice A n c)/\wF.cell? ⟨b,2,none⟩=some (.bool q)/\wF.cell? ⟨b,3,none⟩=some (.slice B m d)/\
  RV wF [] (.agg #[.bool p,.slice A n c,.bool q,.slice B m d]) x/\Below s w wF:=by
 have kp:=(((((Go.Proofs.YtefnknhjlejalaaGreatDoor.Keeps.refl [b] V).setCell (p:=⟨b,0,none⟩) (.inl (by simp)) (.bool p)).setCell (p:=⟨b,1,none⟩) (.inl (by simp)) (.slice A n c)).setCell (p:=⟨b,2,none⟩) (.inl (by simp)) (.bool q)).setCell (p:=⟨b,3,none⟩) (.inl (by simp)) (.slice B m d));refine⟨_,rfl,?_,?_,?_,?_,?_,?_⟩;·simp[go_sem,h0,h1,h2,h3]
 ·simp[go_sem,h0,h1,h2,h3]
 ·simp[go_sem,h0,h1,h2,h3]
 ·simp[go_sem,h0,h1,h2,h3]
 ·obtain⟨A',n',c',B',m',d',e,g1,g2⟩:=hu;cases e;exact⟨_,_,_,_,_,_,rfl,(g1.keep kp).less (fun k hk=>by cases hk),(g2.keep kp).less (fun k hk=>by cases hk)⟩
 ·exact(((hb.setCell (p:=⟨b,0,none⟩) hsb _).setCell (p:=⟨b,1,none⟩) hsb _).setCell (p:=⟨b,2,none⟩) hsb _).setCell (p:=⟨b,3,none⟩) hsb _
theorem afQ{w:World}{N:List Nat}{v:Value}(h:RV w M v x)(hs:∀q,q∈N->q∈M):RV w N v x:=by obtain⟨A,n,c,B,m,d,rfl,h1,h2⟩:=h;exact⟨A,n,c,B,m,d,rfl,h1.less hs,h2.less hs⟩
theorem afF.app0{n c:Nat}(h:afF V wc b Y v 0 [])(hs:Sl InsR V [b] A n c ys)(hn:n<=1000):
 ∃A' c' w',(Builtin.append_ #[22,22] 22 #[v,.slice A n c]).run Tryz.prog wc=.ok (.slice A' n c') w'/\afF V w' b Y (.slice A' n c') n ys/\Keeps V.heap.size wc w':=by
 have:=h.app hs (by omega);simpa only[Nat.zero_add,List.nil_append]using this
end
set_option maxRecDepth 100000 in
set_option maxHeartbeats 8000000 in
attribute[-go_sem] Instr.storeAt in
theorem afE{w:World}{b0 b1:Nat}{X:Option Addr}{n c m d k:Nat}{p:List InsR}{l:List RatR}{r:RatR}(c0:w.cell? ⟨b0,0,none⟩=some (.slice A n c))(c1:w.cell? ⟨b1,0,none⟩=some (.slice B m d))(hp:Sl InsR w [] A n c p)(hl:Sl RatR w [] B m d l)(hq:Sl InsR w [] X k y q)(hw:FwR (p++q) l)(hE:oC (p++q) l 1000=E)(hV:Bj (p++q) l 1000=r)(hn:n+k<=64):
 Calls Tryz.prog 15 #[.slice X k y,.pointer (some ⟨b0,0,none⟩),.pointer (some ⟨b1,0,none⟩)] w fun e w'=>∃u,e=.returned (.tuple #[u,.int .i64 E])/\RV w' [] u r/\Below w.heap.size w w':=by
 refine wid ?_;obtain⟨V,hV1,F1⟩:=nam ((Fr.nil w).a4 w.heap.size 30);have J:=Hd (show St V (fun W=>Fr w W ([]++ [(w.heap.size, [.bool false,.slice none 0 0,.bool false,.slice none 0 0])])/\(W.cell? ⟨b0,0,none⟩=some (.slice A n c)/\W.cell? ⟨b1,0,none⟩=some (.slice B m d))/\Sl InsR W [w.heap.size] X k y q/\Sl InsR W [w.heap.size] A n c p/\Sl RatR W [w.heap.size] B m d l) by unfold St;exact fun W h=>⟨F1.go h,⟨((F1.bl.trans (h.mono F1.bl.size)).cell (World.block_lt_of_cell? w _ c0)).trans c0,((F1.bl.trans (h.mono F1.bl.size)).cell (World.block_lt_of_cell? w _ c1)).trans c1⟩,((hq.more (Nat.le_refl _)).go F1.bl).go h,((hp.more (Nat.le_refl _)).go F1.bl).go h,((hl.more (Nat.le_refl _)).go F1.bl).go h⟩);have HR:=h_ hw hE hV hn;clear c0 c1 hp hl hq hw hE hV hn F1;refine ent Tryz.func15 rfl Tryz.ntmps15 ?_;gi_wp2;obtain⟨sb,hsb⟩:=aC V.heap.size;have uK:=Hd hsb;clear hsb;have v0:=bQ uK.out J.out.at_.2.1.1;have v1:=bQ uK.out J.out.at_.2.1.2;have S:=Hd (show afF V V.drew w.heap.size none (.slice none 0 0) 0 []from⟨(Below.refl _ _).drew,bD.nil _ _ _,trivial,J.out.at_.1.lst⟩);refine aP sb 14 (by kernel_rfl) (by kernel_rfl) ?_;refine ay 1 ?_;refine ay 3 ?_;refine ay 5 ?_;obtain⟨wc,hwc⟩:=aC V.drew;rw[hwc]at S |-;clear hwc v0 v1;refine afI [0,11] (A_c ?_ (A_c ?_ A_n));rotate_left
 ·(refine ND.mk 11 fun K hK=>?_;have S1:=S.out.var;have hb:=((Below.refl wc.heap.size wc).alloc (Nat.le_refl _) (.cells #[.bool false,.slice none 0 0,.bool false,.slice none 0 0] 30));have hk:=(Keeps.of_below hb sb:Keeps sb wc _);obtain⟨afA,hy⟩:=aC wc.heap.size;obtain⟨wc,hwc⟩:=aC (wc.alloc (.cells #[.bool false,.slice none 0 0,.bool false,.slice none 0 0] 30));rw[hwc]at S1 hk hb;rw[hy]at S1;gi_wp2;refine⟨hk,?_⟩;refine lit ?_;try rw[hy]
   replace S:=Hd S1;try replace HU:=Hd ((show RV _ (afy _ (some afA)) _ _ from afO HU.out (Nat.le_of_eq hy)).go hb)
   clear S1 hk hy hwc hb)
  refine afI [0] (A_c ?_ A_n)
  (refine ND.mk 0 fun K hK=>?_;have S1:=S.out.lit;have hk:=(Keeps.of_below ((Below.refl wc.heap.size wc).alloc (Nat.le_refl _) (.cells #[] 38)) sb:Keeps sb wc _);obtain⟨g,hg⟩:=aC wc.heap.size;obtain⟨wc,hwc⟩:=aC (wc.alloc (.cells #[] 38));rw[hwc]at S1 hk;rw[hg]at S1;gi_wp2;refine⟨hk,?_⟩;refine lit ?_;try rw[hg]
   replace S:=Hd S1;clear S1 hk hg hwc)
  refine afI [2] (A_c ?_ A_n);(refine ND.mk 2 fun K hK=>?_;obtain⟨A2,c2,wc,t1,S1,hk⟩:=S.out.app0 J.out.at_.2.2.2.1 (by have:=HR.out.2.2.2;omega);refine aI _ _ _ rfl rfl rfl t1 (hK _ _ ⟨uK.out▸hk,?_⟩);clear hK K;refine lit ?_;replace S:=Hd S1;clear S1 hk t1);refine afI [4] (A_c ?_ A_n);(refine ND.mk 4 fun K hK=>?_;obtain⟨A4,c4,wc,t1,S1,hk⟩:=S.out.app J.out.at_.2.2.1 (by have:=HR.out.2.2.2;omega);refine aI _ _ _ rfl rfl rfl t1 (hK _ _ ⟨uK.out▸hk,?_⟩);clear hK K;refine lit ?_;replace S:=Hd S1;clear S1 hk t1);refine afI [6] (A_c ?_ A_n)
  (refine ND.mk 6 fun K hK=>?_;gi_wp2;obtain⟨A6,c6,e6,s6⟩:=S.out.arg (by have:=HR.out.2.2.2;omega);cases e6;refine Cl 9 (afN (fuel:=1000) HR.out.1 S.out.bel s6 (S.out.regs J.out.at_.2.2.2.2) j1 HR.out.2.1 rfl HR.out.2.2.1) ?_;intro e wc hw;unfold agd at hw;obtain⟨u6,rfl,⟨A7,n7,c7,B7,m7,d7,rfl,s1,s2⟩,hb⟩:=hw;have HU:=Hd (show RV wc (afy _ _) (.agg #[.bool r.1.1,.slice A7 n7 c7,.bool r.2.1,.slice B7 m7 d7]) r from⟨_,_,_,_,_,_,rfl,s1,s2⟩);replace S:=Hd (S.out.go hb);refine hK _ _ ⟨?_,?_⟩;clear hK K;·exact Keeps.of_below hb _
   clear hb s1 s2 s6;refine lit ?_;refine ay 7 ?_;refine ay 8 ?_;refine ay 9 ?_;refine ay 10 ?_)
  obtain⟨W9,t9,R9,k9,B9⟩:=agk S.out.yr.1 r.1.1 r.2.1 A7 B7 n7 c7 m7 d7;have F9:=(J.out.go (B9 _ _ S.out.yr.2.1 S.out.bl)).at_.1;have hx:=fun i u hu=>F9.at_ w.heap.size z4 (by simp) i u hu;have e0:=R9.cell (k:=0) rfl;have e1:=R9.cell (k:=1) rfl;have e2:=R9.cell (k:=2) rfl;have e3:=R9.cell (k:=3) rfl;have HV:=afP HU.out (k9.mono (fun x hx=>by simp[afy,YY]at hx |-;exact .inl hx):Go.Proofs.YtefnknhjlejalaaGreatDoor.Keeps (afy w.heap.size (some afA)) _ _);obtain⟨wF,hwF,t0,t1,t2,t3,hQ,bF⟩:=aga (hx 0 _ rfl).1 (hx 1 _ rfl).1 (hx 2 _ rfl).1 (hx 3 _ rfl).1 (afQ HV (fun q hq=>by simp[afy,YY]at hq |-;exact .inr hq)) F9.bl (Nat.le_refl _);have acQ:=(Aa (hx 0 _ rfl).1 (hx 1 _ rfl).1 (hx 2 _ rfl).1 (hx 3 _ rfl).1 (hx 0 _ rfl).2 (hx 1 _ rfl).2 (hx 2 _ rfl).2 (hx 3 _ rfl).2 r.1.1 r.2.1 A7 B7 n7 c7 m7 d7).trans (by rw[hwF]);have HW:=Zw t0 t1 t2 t3 hQ bF;clear F9 hx HV hwF t0 t1 t2 t3 hQ bF;have kU:=Keeps.sU (s:=sb) k9 (uK.out▸S.out.yr.2.1);clear S HU R9 k9 B9;refine eU 12 fun K hK=>?_;gi_wp2;refine⟨kU,?_⟩;refine lit ?_;clear kU;refine ay 13 ?_;refine iq 1 ?_;refine jW fun K hK K' hK'=>?_;gi_wp2;refine tail_nil _ ?_;simp only[cu];gi_wp2;exact⟨rfl,.tuple #[.agg #[.bool r.1.1,.slice A7 n7 c7,.bool r.2.1,.slice B7 m7 d7],.int .i64 E],by simp[results,go_sem,HW.out.1,HW.out.2.1,HW.out.2.2.1,HW.out.2.2.2.1],_,rfl,HW.out.2.2.2.2.1,HW.out.2.2.2.2.2⟩
 ·(refine ND.mk 0 fun K hK=>?_;have S1:=S.out.lit;have hk:=(Keeps.of_below ((Below.refl wc.heap.size wc).alloc (Nat.le_refl _) (.cells #[] 38)) sb:Keeps sb wc _);obtain⟨g,hg⟩:=aC wc.heap.size;obtain⟨wc,hwc⟩:=aC (wc.alloc (.cells #[] 38));rw[hwc]at S1 hk;rw[hg]at S1;gi_wp2;refine⟨hk,?_⟩;refine lit ?_;try rw[hg]
   replace S:=Hd S1;clear S1 hk hg hwc)
  refine afI [2,11] (A_c ?_ (A_c ?_ A_n));rotate_left
  ·(refine ND.mk 11 fun K hK=>?_;have S1:=S.out.var;have hb:=((Below.refl wc.heap.size wc).alloc (Nat.le_refl _) (.cells #[.bool false,.slice none 0 0,.bool false,.slice none 0 0] 30));have hk:=(Keeps.of_below hb sb:Keeps sb wc _);obtain⟨afA,hy⟩:=aC wc.heap.size;obtain⟨wc,hwc⟩:=aC (wc.alloc (.cells #[.bool false,.slice none 0 0,.bool false,.slice none 0 0] 30));rw[hwc]at S1 hk hb;rw[hy]at S1;gi_wp2;refine⟨hk,?_⟩;refine lit ?_;try rw[hy]
    replace S:=Hd S1;try replace HU:=Hd ((show RV _ (afy _ (some afA)) _ _ from afO HU.out (Nat.le_of_eq hy)).go hb)
    clear S1 hk hy hwc hb)
   refine afI [2] (A_c ?_ A_n);(refine ND.mk 2 fun K hK=>?_;obtain⟨A2,c2,wc,t1,S1,hk⟩:=S.out.app0 J.out.at_.2.2.2.1 (by have:=HR.out.2.2.2;omega);refine aI _ _ _ rfl rfl rfl t1 (hK _ _ ⟨uK.out▸hk,?_⟩);clear hK K;refine lit ?_;replace S:=Hd S1;clear S1 hk t1);refine afI [4] (A_c ?_ A_n);(refine ND.mk 4 fun K hK=>?_;obtain⟨A4,c4,wc,t1,S1,hk⟩:=S.out.app J.out.at_.2.2.1 (by have:=HR.out.2.2.2;omega);refine aI _ _ _ rfl rfl rfl t1 (hK _ _ ⟨uK.out▸hk,?_⟩);clear hK K;refine lit ?_;replace S:=Hd S1;clear S1 hk t1);refine afI [6] (A_c ?_ A_n)
   (refine ND.mk 6 fun K hK=>?_;gi_wp2;obtain⟨A6,c6,e6,s6⟩:=S.out.arg (by have:=HR.out.2.2.2;omega);cases e6;refine Cl 9 (afN (fuel:=1000) HR.out.1 S.out.bel s6 (S.out.regs J.out.at_.2.2.2.2) j1 HR.out.2.1 rfl HR.out.2.2.1) ?_;intro e wc hw;unfold agd at hw;obtain⟨u6,rfl,⟨A7,n7,c7,B7,m7,d7,rfl,s1,s2⟩,hb⟩:=hw;have HU:=Hd (show RV wc (afy _ _) (.agg #[.bool r.1.1,.slice A7 n7 c7,.bool r.2.1,.slice B7 m7 d7]) r from⟨_,_,_,_,_,_,rfl,s1,s2⟩);replace S:=Hd (S.out.go hb);refine hK _ _ ⟨?_,?_⟩;clear hK K;·exact Keeps.of_below hb _
    clear hb s1 s2 s6;refine lit ?_;refine ay 7 ?_;refine ay 8 ?_;refine ay 9 ?_;refine ay 10 ?_)
   obtain⟨W9,t9,R9,k9,B9⟩:=agk S.out.yr.1 r.1.1 r.2.1 A7 B7 n7 c7 m7 d7;have F9:=(J.out.go (B9 _ _ S.out.yr.2.1 S.out.bl)).at_.1;have hx:=fun i u hu=>F9.at_ w.heap.size z4 (by simp) i u hu;have e0:=R9.cell (k:=0) rfl;have e1:=R9.cell (k:=1) rfl;have e2:=R9.cell (k:=2) rfl;have e3:=R9.cell (k:=3) rfl;have HV:=afP HU.out (k9.mono (fun x hx=>by simp[afy,YY]at hx |-;exact .inl hx):Go.Proofs.YtefnknhjlejalaaGreatDoor.Keeps (afy w.heap.size (some afA)) _ _);obtain⟨wF,hwF,t0,t1,t2,t3,hQ,bF⟩:=aga (hx 0 _ rfl).1 (hx 1 _ rfl).1 (hx 2 _ rfl).1 (hx 3 _ rfl).1 (afQ HV (fun q hq=>by simp[afy,YY]at hq |-;exact .inr hq)) F9.bl (Nat.le_refl _);have acQ:=(Aa (hx 0 _ rfl).1 (hx 1 _ rfl).1 (hx 2 _ rfl).1 (hx 3 _ rfl).1 (hx 0 _ rfl).2 (hx 1 _ rfl).2 (hx 2 _ rfl).2 (hx 3 _ rfl).2 r.1.1 r.2.1 A7 B7 n7 c7 m7 d7).trans (by rw[hwF]);have HW:=Zw t0 t1 t2 t3 hQ bF;clear F9 hx HV hwF t0 t1 t2 t3 hQ bF;have kU:=Keeps.sU (s:=sb) k9 (uK.out▸S.out.yr.2.1);clear S HU R9 k9 B9;refine eU 12 fun K hK=>?_;gi_wp2;refine⟨kU,?_⟩;refine lit ?_;clear kU;refine ay 13 ?_;refine iq 1 ?_;refine jW fun K hK K' hK'=>?_;gi_wp2;refine tail_nil _ ?_;simp only[cu];gi_wp2;exact⟨rfl,.tuple #[.agg #[.bool r.1.1,.slice A7 n7 c7,.bool r.2.1,.slice B7 m7 d7],.int .i64 E],by simp[results,go_sem,HW.out.1,HW.out.2.1,HW.out.2.2.1,HW.out.2.2.2.1],_,rfl,HW.out.2.2.2.2.1,HW.out.2.2.2.2.2⟩
  (refine ND.mk 2 fun K hK=>?_;obtain⟨A2,c2,wc,t1,S1,hk⟩:=S.out.app0 J.out.at_.2.2.2.1 (by have:=HR.out.2.2.2;omega);refine aI _ _ _ rfl rfl rfl t1 (hK _ _ ⟨uK.out▸hk,?_⟩);clear hK K;refine lit ?_;replace S:=Hd S1;clear S1 hk t1);refine afI [4,11] (A_c ?_ (A_c ?_ A_n));rotate_left
  ·(refine ND.mk 11 fun K hK=>?_;have S1:=S.out.var;have hb:=((Below.refl wc.heap.size wc).alloc (Nat.le_refl _) (.cells #[.bool false,.slice none 0 0,.bool false,.slice none 0 0] 30));have hk:=(Keeps.of_below hb sb:Keeps sb wc _);obtain⟨afA,hy⟩:=aC wc.heap.size;obtain⟨wc,hwc⟩:=aC (wc.alloc (.cells #[.bool false,.slice none 0 0,.bool false,.slice none 0 0] 30));rw[hwc]at S1 hk hb;rw[hy]at S1;gi_wp2;refine⟨hk,?_⟩;refine lit ?_;try rw[hy]
    replace S:=Hd S1;try replace HU:=Hd ((show RV _ (afy _ (some afA)) _ _ from afO HU.out (Nat.le_of_eq hy)).go hb)
    clear S1 hk hy hwc hb)
   refine afI [4] (A_c ?_ A_n);(refine ND.mk 4 fun K hK=>?_;obtain⟨A4,c4,wc,t1,S1,hk⟩:=S.out.app J.out.at_.2.2.1 (by have:=HR.out.2.2.2;omega);refine aI _ _ _ rfl rfl rfl t1 (hK _ _ ⟨uK.out▸hk,?_⟩);clear hK K;refine lit ?_;replace S:=Hd S1;clear S1 hk t1);refine afI [6] (A_c ?_ A_n)
   (refine ND.mk 6 fun K hK=>?_;gi_wp2;obtain⟨A6,c6,e6,s6⟩:=S.out.arg (by have:=HR.out.2.2.2;omega);cases e6;refine Cl 9 (afN (fuel:=1000) HR.out.1 S.out.bel s6 (S.out.regs J.out.at_.2.2.2.2) j1 HR.out.2.1 rfl HR.out.2.2.1) ?_;intro e wc hw;unfold agd at hw;obtain⟨u6,rfl,⟨A7,n7,c7,B7,m7,d7,rfl,s1,s2⟩,hb⟩:=hw;have HU:=Hd (show RV wc (afy _ _) (.agg #[.bool r.1.1,.slice A7 n7 c7,.bool r.2.1,.slice B7 m7 d7]) r from⟨_,_,_,_,_,_,rfl,s1,s2⟩);replace S:=Hd (S.out.go hb);refine hK _ _ ⟨?_,?_⟩;clear hK K;·exact Keeps.of_below hb _
    clear hb s1 s2 s6;refine lit ?_;refine ay 7 ?_;refine ay 8 ?_;refine ay 9 ?_;refine ay 10 ?_)
   obtain⟨W9,t9,R9,k9,B9⟩:=agk S.out.yr.1 r.1.1 r.2.1 A7 B7 n7 c7 m7 d7;have F9:=(J.out.go (B9 _ _ S.out.yr.2.1 S.out.bl)).at_.1;have hx:=fun i u hu=>F9.at_ w.heap.size z4 (by simp) i u hu;have e0:=R9.cell (k:=0) rfl;have e1:=R9.cell (k:=1) rfl;have e2:=R9.cell (k:=2) rfl;have e3:=R9.cell (k:=3) rfl;have HV:=afP HU.out (k9.mono (fun x hx=>by simp[afy,YY]at hx |-;exact .inl hx):Go.Proofs.YtefnknhjlejalaaGreatDoor.Keeps (afy w.heap.size (some afA)) _ _);obtain⟨wF,hwF,t0,t1,t2,t3,hQ,bF⟩:=aga (hx 0 _ rfl).1 (hx 1 _ rfl).1 (hx 2 _ rfl).1 (hx 3 _ rfl).1 (afQ HV (fun q hq=>by simp[afy,YY]at hq |-;exact .inr hq)) F9.bl (Nat.le_refl _);have acQ:=(Aa (hx 0 _ rfl).1 (hx 1 _ rfl).1 (hx 2 _ rfl).1 (hx 3 _ rfl).1 (hx 0 _ rfl).2 (hx 1 _ rfl).2 (hx 2 _ rfl).2 (hx 3 _ rfl).2 r.1.1 r.2.1 A7 B7 n7 c7 m7 d7).trans (by rw[hwF]);have HW:=Zw t0 t1 t2 t3 hQ bF;clear F9 hx HV hwF t0 t1 t2 t3 hQ bF;have kU:=Keeps.sU (s:=sb) k9 (uK.out▸S.out.yr.2.1);clear S HU R9 k9 B9;refine eU 12 fun K hK=>?_;gi_wp2;refine⟨kU,?_⟩;refine lit ?_;clear kU;refine ay 13 ?_;refine iq 1 ?_;refine jW fun K hK K' hK'=>?_;gi_wp2;refine tail_nil _ ?_;simp only[cu];gi_wp2;exact⟨rfl,.tuple #[.agg #[.bool r.1.1,.slice A7 n7 c7,.bool r.2.1,.slice B7 m7 d7],.int .i64 E],by simp[results,go_sem,HW.out.1,HW.out.2.1,HW.out.2.2.1,HW.out.2.2.2.1],_,rfl,HW.out.2.2.2.2.1,HW.out.2.2.2.2.2⟩
  (refine ND.mk 4 fun K hK=>?_;obtain⟨A4,c4,wc,t1,S1,hk⟩:=S.out.app J.out.at_.2.2.1 (by have:=HR.out.2.2.2;omega);refine aI _ _ _ rfl rfl rfl t1 (hK _ _ ⟨uK.out▸hk,?_⟩);clear hK K;refine lit ?_;replace S:=Hd S1;clear S1 hk t1);refine afI [6,11] (A_c ?_ (A_c ?_ A_n));rotate_left
  ·(refine ND.mk 11 fun K hK=>?_;have S1:=S.out.var;have hb:=((Below.refl wc.heap.size wc).alloc (Nat.le_refl _) (.cells #[.bool false,.slice none 0 0,.bool false,.slice none 0 0] 30));have hk:=(Keeps.of_below hb sb:Keeps sb wc _);obtain⟨afA,hy⟩:=aC wc.heap.size;obtain⟨wc,hwc⟩:=aC (wc.alloc (.cells #[.bool false,.slice none 0 0,.bool false,.slice none 0 0] 30));rw[hwc]at S1 hk hb;rw[hy]at S1;gi_wp2;refine⟨hk,?_⟩;refine lit ?_;try rw[hy]
    replace S:=Hd S1;try replace HU:=Hd ((show RV _ (afy _ (some afA)) _ _ from afO HU.out (Nat.le_of_eq hy)).go hb)
    clear S1 hk hy hwc hb)
   refine afI [6] (A_c ?_ A_n)
   (refine ND.mk 6 fun K hK=>?_;gi_wp2;obtain⟨A6,c6,e6,s6⟩:=S.out.arg (by have:=HR.out.2.2.2;omega);cases e6;refine Cl 9 (afN (fuel:=1000) HR.out.1 S.out.bel s6 (S.out.regs J.out.at_.2.2.2.2) j1 HR.out.2.1 rfl HR.out.2.2.1) ?_;intro e wc hw;unfold agd at hw;obtain⟨u6,rfl,⟨A7,n7,c7,B7,m7,d7,rfl,s1,s2⟩,hb⟩:=hw;have HU:=Hd (show RV wc (afy _ _) (.agg #[.bool r.1.1,.slice A7 n7 c7,.bool r.2.1,.slice B7 m7 d7]) r from⟨_,_,_,_,_,_,rfl,s1,s2⟩);replace S:=Hd (S.out.go hb);refine hK _ _ ⟨?_,?_⟩;clear hK K;·exact Keeps.of_below hb _
    clear hb s1 s2 s6;refine lit ?_;refine ay 7 ?_;refine ay 8 ?_;refine ay 9 ?_;refine ay 10 ?_)
   obtain⟨W9,t9,R9,k9,B9⟩:=agk S.out.yr.1 r.1.1 r.2.1 A7 B7 n7 c7 m7 d7;have F9:=(J.out.go (B9 _ _ S.out.yr.2.1 S.out.bl)).at_.1;have hx:=fun i u hu=>F9.at_ w.heap.size z4 (by simp) i u hu;have e0:=R9.cell (k:=0) rfl;have e1:=R9.cell (k:=1) rfl;have e2:=R9.cell (k:=2) rfl;have e3:=R9.cell (k:=3) rfl;have HV:=afP HU.out (k9.mono (fun x hx=>by simp[afy,YY]at hx |-;exact .inl hx):Go.Proofs.YtefnknhjlejalaaGreatDoor.Keeps (afy w.heap.size (some afA)) _ _);obtain⟨wF,hwF,t0,t1,t2,t3,hQ,bF⟩:=aga (hx 0 _ rfl).1 (hx 1 _ rfl).1 (hx 2 _ rfl).1 (hx 3 _ rfl).1 (afQ HV (fun q hq=>by simp[afy,YY]at hq |-;exact .inr hq)) F9.bl (Nat.le_refl _);have acQ:=(Aa (hx 0 _ rfl).1 (hx 1 _ rfl).1 (hx 2 _ rfl).1 (hx 3 _ rfl).1 (hx 0 _ rfl).2 (hx 1 _ rfl).2 (hx 2 _ rfl).2 (hx 3 _ rfl).2 r.1.1 r.2.1 A7 B7 n7 c7 m7 d7).trans (by rw[hwF]);have HW:=Zw t0 t1 t2 t3 hQ bF;clear F9 hx HV hwF t0 t1 t2 t3 hQ bF;have kU:=Keeps.sU (s:=sb) k9 (uK.out▸S.out.yr.2.1);clear S HU R9 k9 B9;refine eU 12 fun K hK=>?_;gi_wp2;refine⟨kU,?_⟩;refine lit ?_;clear kU;refine ay 13 ?_;refine iq 1 ?_;refine jW fun K hK K' hK'=>?_;gi_wp2;refine tail_nil _ ?_;simp only[cu];gi_wp2;exact⟨rfl,.tuple #[.agg #[.bool r.1.1,.slice A7 n7 c7,.bool r.2.1,.slice B7 m7 d7],.int .i64 E],by simp[results,go_sem,HW.out.1,HW.out.2.1,HW.out.2.2.1,HW.out.2.2.2.1],_,rfl,HW.out.2.2.2.2.1,HW.out.2.2.2.2.2⟩
  (refine ND.mk 6 fun K hK=>?_;gi_wp2;obtain⟨A6,c6,e6,s6⟩:=S.out.arg (by have:=HR.out.2.2.2;omega);cases e6;refine Cl 9 (afN (fuel:=1000) HR.out.1 S.out.bel s6 (S.out.regs J.out.at_.2.2.2.2) j1 HR.out.2.1 rfl HR.out.2.2.1) ?_;intro e wc hw;unfold agd at hw;obtain⟨u6,rfl,⟨A7,n7,c7,B7,m7,d7,rfl,s1,s2⟩,hb⟩:=hw;have HU:=Hd (show RV wc (afy _ _) (.agg #[.bool r.1.1,.slice A7 n7 c7,.bool r.2.1,.slice B7 m7 d7]) r from⟨_,_,_,_,_,_,rfl,s1,s2⟩);replace S:=Hd (S.out.go hb);refine hK _ _ ⟨?_,?_⟩;clear hK K;·exact Keeps.of_below hb _
   clear hb s1 s2 s6;refine lit ?_;refine ay 7 ?_;refine ay 8 ?_;refine ay 9 ?_;refine ay 10 ?_)
  refine afI [11] (A_c ?_ A_n)
  (refine ND.mk 11 fun K hK=>?_;have S1:=S.out.var;have hb:=((Below.refl wc.heap.size wc).alloc (Nat.le_refl _) (.cells #[.bool false,.slice none 0 0,.bool false,.slice none 0 0] 30));have hk:=(Keeps.of_below hb sb:Keeps sb wc _);obtain⟨afA,hy⟩:=aC wc.heap.size;obtain⟨wc,hwc⟩:=aC (wc.alloc (.cells #[.bool false,.slice none 0 0,.bool false,.slice none 0 0] 30));rw[hwc]at S1 hk hb;rw[hy]at S1;gi_wp2;refine⟨hk,?_⟩;refine lit ?_;try rw[hy]
   replace S:=Hd S1;try replace HU:=Hd ((show RV _ (afy _ (some afA)) _ _ from afO HU.out (Nat.le_of_eq hy)).go hb)
   clear S1 hk hy hwc hb)
  obtain⟨W9,t9,R9,k9,B9⟩:=agk S.out.yr.1 r.1.1 r.2.1 A7 B7 n7 c7 m7 d7;have F9:=(J.out.go (B9 _ _ S.out.yr.2.1 S.out.bl)).at_.1;have hx:=fun i u hu=>F9.at_ w.heap.size z4 (by simp) i u hu;have e0:=R9.cell (k:=0) rfl;have e1:=R9.cell (k:=1) rfl;have e2:=R9.cell (k:=2) rfl;have e3:=R9.cell (k:=3) rfl;have HV:=afP HU.out (k9.mono (fun x hx=>by simp[afy,YY]at hx |-;exact .inl hx):Go.Proofs.YtefnknhjlejalaaGreatDoor.Keeps (afy w.heap.size (some afA)) _ _);obtain⟨wF,hwF,t0,t1,t2,t3,hQ,bF⟩:=aga (hx 0 _ rfl).1 (hx 1 _ rfl).1 (hx 2 _ rfl).1 (hx 3 _ rfl).1 (afQ HV (fun q hq=>by simp[afy,YY]at hq |-;exact .inr hq)) F9.bl (Nat.le_refl _);have acQ:=(Aa (hx 0 _ rfl).1 (hx 1 _ rfl).1 (hx 2 _ rfl).1 (hx 3 _ rfl).1 (hx 0 _ rfl).2 (hx 1 _ rfl).2 (hx 2 _ rfl).2 (hx 3 _ rfl).2 r.1.1 r.2.1 A7 B7 n7 c7 m7 d7).trans (by rw[hwF]);have HW:=Zw t0 t1 t2 t3 hQ bF;clear F9 hx HV hwF t0 t1 t2 t3 hQ bF;have kU:=Keeps.sU (s:=sb) k9 (uK.out▸S.out.yr.2.1);clear S HU R9 k9 B9;refine eU 12 fun K hK=>?_;gi_wp2;refine⟨kU,?_⟩;refine lit ?_;clear kU;refine ay 13 ?_;refine iq 1 ?_;refine jW fun K hK K' hK'=>?_;gi_wp2;refine tail_nil _ ?_;simp only[cu];gi_wp2;exact⟨rfl,.tuple #[.agg #[.bool r.1.1,.slice A7 n7 c7,.bool r.2.1,.slice B7 m7 d7],.int .i64 E],by simp[results,go_sem,HW.out.1,HW.out.2.1,HW.out.2.2.1,HW.out.2.2.2.1],_,rfl,HW.out.2.2.2.2.1,HW.out.2.2.2.2.2⟩
end U
end
section
namespace U
open Go.RowKit Go.Shelf
attribute [local go_sem] Oper.semAt_some
def afw(p q:List InsR)(l:List RatR)(E:Int)(r:RatR):Prop:=FwR (p++q) l/\oC (p++q) l 1000=E/\Bj (p++q) l 1000=r
theorem afR{p:List InsR}{l:List RatR}{r:Rt}(h:afZ p q l r):afw p q l (afJ l) (Bj (p++q) l 1000):=⟨h.w,h.e,rfl⟩
theorem af2{p q':List InsR}{l:List RatR}{r:Rt}(h1:afZ p q l r)(h2:afZ p q' l r)(h:afJ l=0):Bj (p++q) l 1000=Bj (p++q') l 1000:=by rw[agt (h1.e.trans h),agt (h2.e.trans h),h1.v (agc.1 h),h2.v (agc.1 h)]
theorem agv{p:List InsR}{l:List RatR}{n i k:Nat}(hw:Fw19 p l)(hc:fC p l.length=0)(hl:p.length=n)(hn:n<=50)(hi:i<n)(hk:k<n):
 ∃E r1 r2 r3 r4 r5 r6,(afw p [afC 6 i k 0 0] l E r1/\afw p [afC 8 i k i k] l E r2/\afw p [afC 7 i k 0 0] l E r3/\afw p [afC 8 i k k i] l E r4/\afw p [afC 3 i k 0 0] l E r5/\afw p [afC 6 i k 0 0,afC 7 i k 0 0,afC 3 n ((n:Int)+1) 0 0] l E r6)/\(E=100\/(E=0/\r1=r2/\r3=r4/\r5=r6)):=by
 subst hl;have s1:=agy hw hc hn hi hk;have s2:=agz hw hc hn hi hk;have s3:=agA hw hc hn hi hk;have s4:=agB hw hc hn hi hk;have s5:=agC hw hc hn hi hk;have s6:=agD hw hc hn hi hk;refine⟨afJ l,_,_,_,_,_,_,⟨afR s1,afR s2,afR s3,afR s4,afR s5,afR s6⟩,?_⟩;rcases agi l with h|h;·exact .inr ⟨h,af2 s1 s2 h,af2 s3 s4 h,af2 s5 s6 h⟩
 ·exact .inl h
theorem afS{n c m d:Nat}{p:List InsR}{l:List RatR}{a b:Int}{w:World}(hp:Sl InsR w [] A n c p)(hl:Sl RatR w [] B m d l)(ha:0<=a/\a<=255)(hb:0<=b/\b<=255)(ht:Tab w):
 CB 6 #[.slice A n c,.slice B m d,.int .u8 a,.int .u8 b] (.bool true) w:=by
 refine wid ?_;have hpl:=hp.len;have hll:=hl.len;have hsp:=hp.small;have hsl:=hl.small;have HL:=h_ hpl hll ha hb;obtain⟨W1,hW1,F1⟩:=nam (((Fr.nil w).a w.heap.size [.slice A n c] 22).a (w.heap.size+1) [.slice B m d] 23);have J:=Hd (show St W1 (fun V=>Fr w V ([]++ [(w.heap.size, [.slice A n c])]++ [(w.heap.size+1, [.slice B m d])])/\Sl InsR V [] A n c p/\Sl RatR V [] B m d l) by unfold St;exact fun V h=>⟨F1.go h,(hp.go F1.bl).go h,(hl.go F1.bl).go h⟩);have HT:=Hd (tab_below ht F1.bl);clear hp hl ht F1 hpl hll ha hb;refine ent Tryz.func6 rfl Tryz.ntmps6 ?_;gi_wp2;refine Cl 7 (FH HT.out) ?_;rintro e w2 ⟨rfl,hb⟩;replace J:=Hd (J.out.go hb);clear hb HT;have o2:=opc J.out.at_.1;gi_wp2;refine Cl 8 (few19_any J.out.at_.2.1 J.out.at_.2.2) ?_;intro e w3 hw;obtain⟨b9,rfl,hP,hb⟩:=hw.of;replace J:=Hd (J.out.go hb);clear hb o2;have o3:=opc J.out.at_.1;cases b9
 ·gi_wp2
  repeat
   refine⟨trivial,?_⟩;gi_wp2
  go_ret;exact⟨rfl,J.out.at_.1.bl⟩
 ·have hw1:=hP rfl;clear hP;gi_wp2;refine Cl 12 (vO (M:= []) A n c p (m:Int) _ (b_.nil _) J.out.at_.2.1) ?_;rintro e w4 ⟨rfl,hb⟩;replace J:=Hd (J.out.go hb);clear hb o3;have o4:=opc J.out.at_.1;by_cases hc:fC p m=0
  ·rw[hc];rw[<-HL.out.2.1]at hc;by_cases hn:n<=50
   ·obtain⟨h1,h60⟩:=hw1.short hc;rw[HL.out.1]at h1 h60;obtain⟨i,hi,hr⟩:=af9 HL.out.2.2.1.1 (show 0<n by omega);obtain⟨k,hk,hs⟩:=af9 HL.out.2.2.2.1 (show 0<n by omega);have FF:=agv hw1 hc HL.out.1 hn hi hk;have hA:=HL.out.2.2.1;have hB:=HL.out.2.2.2;have hn0:¬(n:Int)=0:=by omega
    have hnn:¬n=0:=by omega
    have agE:¬50<n:=by omega
    have hwa:IntKind.i64.wrap a=a:=by rw[IntKind.wrap_i64];omega
    have hwb:IntKind.i64.wrap b=b:=by rw[IntKind.wrap_i64];omega
    have hwi:IntKind.i64.wrap (i:Int)=(i:Int):=by rw[IntKind.wrap_i64];omega
    have hwk:IntKind.i64.wrap (k:Int)=(k:Int):=by rw[IntKind.wrap_i64];omega
    have hwn:IntKind.i64.wrap ((n:Int)+1)=(n:Int)+1:=by rw[IntKind.wrap_i64];omega
    obtain⟨E,r1,r2,r3,r4,r5,r6,hF,hX⟩:=FF;have HF:=Hd hF;have HX:=Hd hX;clear hA hB hc hw1 h1 h60 hF hX;gi_wp2;obtain⟨X1,hX⟩:=aC (w4.alloc (.cells #[.int .i64 6,.int .i64 (i:Int),.int .i64 (k:Int),.int .i64 0,.int .i64 0,.bool false,.slice none 0 0,.bool false,.slice none 0 0] 38));rw[hX];have hb:Below w4.heap.size w4 X1:=by rw[<-hX];exact bel
    have sq:Sl InsR X1 [] (some ⟨w4.heap.size,0,none⟩) 1 1 [afC 6 (i:Int) (k:Int) 0 0]:=by rw[<-hX];exact NH (b_.nil _) _ (afG (op:=6) (a:=(i:Int)) (b:=(k:Int)) (c:=0) (d:=0) (by unfold i64;omega))
    replace J:=Hd (J.out.go hb);have hq:=HF.out.1;refine Cl 15 (afE (J.out.at_.1.aQ 0 0) (J.out.at_.1.aQ 1 0) J.out.at_.2.1 J.out.at_.2.2 sq hq.1 hq.2.1 hq.2.2 (by omega)) ?_;clear hb sq hX hq;intro e w1 hw;obtain⟨u1,rfl,⟨A1,n1,c1,B1,m1,d1,rfl,s1,s2⟩,hb⟩:=hw;obtain⟨p1,hp1⟩:=aC (r1).1.1;obtain⟨q1,hq1⟩:=aC (r1).2.1;rw[hp1,hq1];obtain⟨V1,hV1,hb2,F⟩:=fP (w:=w1) ((Fr.nil w1).a w1.heap.size [.bool p1,.slice A1 n1 c1,.bool q1,.slice B1 m1 d1] 30);replace J:=Hd (((J.out.go hb).go hb2).add (fun V hV=>And.intro (F.go hV) (show RV V [] (.agg #[.bool p1,.slice A1 n1 c1,.bool q1,.slice B1 m1 d1]) (r1)from⟨_,_,_,_,_,_,by rw[hp1,hq1],(s1.go hb2).go hV,(s2.go hb2).go hV⟩)));clear hb hb2 F s1 s2 hp1 hq1;gi_wp2;obtain⟨X2,hX⟩:=aC (V1.alloc (.cells #[.int .i64 8,.int .i64 (i:Int),.int .i64 (k:Int),.int .i64 (i:Int),.int .i64 (k:Int),.bool false,.slice none 0 0,.bool false,.slice none 0 0] 38));rw[hX];have hb:Below V1.heap.size V1 X2:=by rw[<-hX];exact bel
    have sq:Sl InsR X2 [] (some ⟨V1.heap.size,0,none⟩) 1 1 [afC 8 (i:Int) (k:Int) (i:Int) (k:Int)]:=by rw[<-hX];exact NH (b_.nil _) _ (afG (op:=8) (a:=(i:Int)) (b:=(k:Int)) (c:=(i:Int)) (d:=(k:Int)) (by unfold i64;omega))
    replace J:=Hd (J.out.go hb);have hq:=HF.out.2.1;refine Cl 15 (afE (J.out.at_.2.1.aQ 0 0) (J.out.at_.2.1.aQ 1 0) J.out.at_.2.2.1 J.out.at_.2.2.2 sq hq.1 hq.2.1 hq.2.2 (by omega)) ?_;clear hb sq hX hq;intro e w2 hw;obtain⟨u2,rfl,⟨A2,n2,c2,B2,m2,d2,rfl,s1,s2⟩,hb⟩:=hw;obtain⟨p2,hp2⟩:=aC (r2).1.1;obtain⟨q2,hq2⟩:=aC (r2).2.1;rw[hp2,hq2];obtain⟨V2,hV2,hb2,F⟩:=fP (w:=w2) ((Fr.nil w2).a w2.heap.size [.bool p2,.slice A2 n2 c2,.bool q2,.slice B2 m2 d2] 30);replace J:=Hd (((J.out.go hb).go hb2).add (fun V hV=>And.intro (F.go hV) (show RV V [] (.agg #[.bool p2,.slice A2 n2 c2,.bool q2,.slice B2 m2 d2]) (r2)from⟨_,_,_,_,_,_,by rw[hp2,hq2],(s1.go hb2).go hV,(s2.go hb2).go hV⟩)));clear hb hb2 F s1 s2 hp2 hq2;gi_wp2;obtain⟨X3,hX⟩:=aC (V2.alloc (.cells #[.int .i64 7,.int .i64 (i:Int),.int .i64 (k:Int),.int .i64 0,.int .i64 0,.bool false,.slice none 0 0,.bool false,.slice none 0 0] 38));rw[hX];have hb:Below V2.heap.size V2 X3:=by rw[<-hX];exact bel
    have sq:Sl InsR X3 [] (some ⟨V2.heap.size,0,none⟩) 1 1 [afC 7 (i:Int) (k:Int) 0 0]:=by rw[<-hX];exact NH (b_.nil _) _ (afG (op:=7) (a:=(i:Int)) (b:=(k:Int)) (c:=0) (d:=0) (by unfold i64;omega))
    replace J:=Hd (J.out.go hb);have hq:=HF.out.2.2.1;refine Cl 15 (afE (J.out.at_.2.2.1.aQ 0 0) (J.out.at_.2.2.1.aQ 1 0) J.out.at_.2.2.2.1 J.out.at_.2.2.2.2 sq hq.1 hq.2.1 hq.2.2 (by omega)) ?_;clear hb sq hX hq;intro e w3 hw;obtain⟨u3,rfl,⟨A3,n3,c3,B3,m3,d3,rfl,s1,s2⟩,hb⟩:=hw;obtain⟨p3,hp3⟩:=aC (r3).1.1;obtain⟨q3,hq3⟩:=aC (r3).2.1;rw[hp3,hq3];obtain⟨V3,JM,hb2,F⟩:=fP (w:=w3) ((Fr.nil w3).a w3.heap.size [.bool p3,.slice A3 n3 c3,.bool q3,.slice B3 m3 d3] 30);replace J:=Hd (((J.out.go hb).go hb2).add (fun V hV=>And.intro (F.go hV) (show RV V [] (.agg #[.bool p3,.slice A3 n3 c3,.bool q3,.slice B3 m3 d3]) (r3)from⟨_,_,_,_,_,_,by rw[hp3,hq3],(s1.go hb2).go hV,(s2.go hb2).go hV⟩)));clear hb hb2 F s1 s2 hp3 hq3;gi_wp2;obtain⟨X4,hX⟩:=aC (V3.alloc (.cells #[.int .i64 8,.int .i64 (i:Int),.int .i64 (k:Int),.int .i64 (k:Int),.int .i64 (i:Int),.bool false,.slice none 0 0,.bool false,.slice none 0 0] 38));rw[hX];have hb:Below V3.heap.size V3 X4:=by rw[<-hX];exact bel
    have sq:Sl InsR X4 [] (some ⟨V3.heap.size,0,none⟩) 1 1 [afC 8 (i:Int) (k:Int) (k:Int) (i:Int)]:=by rw[<-hX];exact NH (b_.nil _) _ (afG (op:=8) (a:=(i:Int)) (b:=(k:Int)) (c:=(k:Int)) (d:=(i:Int)) (by unfold i64;omega))
    replace J:=Hd (J.out.go hb);have hq:=HF.out.2.2.2.1;refine Cl 15 (afE (J.out.at_.2.2.2.1.aQ 0 0) (J.out.at_.2.2.2.1.aQ 1 0) J.out.at_.2.2.2.2.1 J.out.at_.2.2.2.2.2 sq hq.1 hq.2.1 hq.2.2 (by omega)) ?_;clear hb sq hX hq;intro e w4 hw;obtain⟨u4,rfl,⟨A4,n4,c4,B4,m4,d4,rfl,s1,s2⟩,hb⟩:=hw;obtain⟨p4,Yc⟩:=aC (r4).1.1;obtain⟨q4,hq4⟩:=aC (r4).2.1;rw[Yc,hq4];obtain⟨V4,hV4,hb2,F⟩:=fP (w:=w4) ((Fr.nil w4).a w4.heap.size [.bool p4,.slice A4 n4 c4,.bool q4,.slice B4 m4 d4] 30);replace J:=Hd (((J.out.go hb).go hb2).add (fun V hV=>And.intro (F.go hV) (show RV V [] (.agg #[.bool p4,.slice A4 n4 c4,.bool q4,.slice B4 m4 d4]) (r4)from⟨_,_,_,_,_,_,by rw[Yc,hq4],(s1.go hb2).go hV,(s2.go hb2).go hV⟩)));clear hb hb2 F s1 s2 Yc hq4;clear o4;rcases HX.out with rfl|⟨rfl,h12,h34,h56⟩;·clear HX HF;gi_wp2;go_ret;exact⟨rfl,J.out.at_.2.2.2.2.1.bl⟩
    gi_wp2;obtain⟨afx,hX⟩:=aC (V4.alloc (.cells #[.int .i64 3,.int .i64 (i:Int),.int .i64 (k:Int),.int .i64 0,.int .i64 0,.bool false,.slice none 0 0,.bool false,.slice none 0 0] 38));rw[hX];have hb:Below V4.heap.size V4 afx:=by rw[<-hX];exact bel
    have sq:Sl InsR afx [] (some ⟨V4.heap.size,0,none⟩) 1 1 [afC 3 (i:Int) (k:Int) 0 0]:=by rw[<-hX];exact NH (b_.nil _) _ (afG (op:=3) (a:=(i:Int)) (b:=(k:Int)) (c:=0) (d:=0) (by unfold i64;omega))
    replace J:=Hd (J.out.go hb);have hq:=HF.out.2.2.2.2.1;refine Cl 15 (afE (J.out.at_.2.2.2.2.1.aQ 0 0) (J.out.at_.2.2.2.2.1.aQ 1 0) J.out.at_.2.2.2.2.2.1 J.out.at_.2.2.2.2.2.2 sq hq.1 hq.2.1 hq.2.2 (by omega)) ?_;clear hb sq hX hq;intro e w5 hw;obtain⟨u5,rfl,⟨A5,n5,c5,B5,m5,d5,rfl,s1,s2⟩,hb⟩:=hw;obtain⟨p5,EI⟩:=aC (r5).1.1;obtain⟨q5,hq5⟩:=aC (r5).2.1;rw[EI,hq5];obtain⟨V5,oM,hb2,F⟩:=fP (w:=w5) ((Fr.nil w5).a w5.heap.size [.bool p5,.slice A5 n5 c5,.bool q5,.slice B5 m5 d5] 30);replace J:=Hd (((J.out.go hb).go hb2).add (fun V hV=>And.intro (F.go hV) (show RV V [] (.agg #[.bool p5,.slice A5 n5 c5,.bool q5,.slice B5 m5 d5]) (r5)from⟨_,_,_,_,_,_,by rw[EI,hq5],(s1.go hb2).go hV,(s2.go hb2).go hV⟩)));clear hb hb2 F s1 s2 EI hq5;gi_wp2;obtain⟨X6,hX⟩:=aC (V5.alloc (.cells #[.int .i64 6,.int .i64 (i:Int),.int .i64 (k:Int),.int .i64 0,.int .i64 0,.bool false,.slice none 0 0,.bool false,.slice none 0 0,.int .i64 7,.int .i64 (i:Int),.int .i64 (k:Int),.int .i64 0,.int .i64 0,.bool false,.slice none 0 0,.bool false,.slice none 0 0,.int .i64 3,.int .i64 (n:Int),.int .i64 ((n:Int)+1),.int .i64 0,.int .i64 0,.bool false,.slice none 0 0,.bool false,.slice none 0 0] 38));rw[hX];have hb:Below V5.heap.size V5 X6:=by rw[<-hX];exact bel
    have sq:Sl InsR X6 [] (some ⟨V5.heap.size,0,none⟩) 3 3 [afC 6 (i:Int) (k:Int) 0 0,afC 7 (i:Int) (k:Int) 0 0,afC 3 (n:Int) ((n:Int)+1) 0 0]:=by rw[<-hX];exact pG (cs:= [[.int .i64 6,.int .i64 (i:Int),.int .i64 (k:Int),.int .i64 0,.int .i64 0,.bool false,.slice none 0 0,.bool false,.slice none 0 0], [.int .i64 7,.int .i64 (i:Int),.int .i64 (k:Int),.int .i64 0,.int .i64 0,.bool false,.slice none 0 0,.bool false,.slice none 0 0], [.int .i64 3,.int .i64 (n:Int),.int .i64 ((n:Int)+1),.int .i64 0,.int .i64 0,.bool false,.slice none 0 0,.bool false,.slice none 0 0]]) (b_.nil _) _ [afC 6 (i:Int) (k:Int) 0 0,afC 7 (i:Int) (k:Int) 0 0,afC 3 (n:Int) ((n:Int)+1) 0 0] ⟨(afG (op:=6) (a:=(i:Int)) (b:=(k:Int)) (c:=0) (d:=0) (by unfold i64;omega)),(afG (op:=7) (a:=(i:Int)) (b:=(k:Int)) (c:=0) (d:=0) (by unfold i64;omega)),(afG (op:=3) (a:=(n:Int)) (b:=((n:Int)+1)) (c:=0) (d:=0) (by unfold i64;omega)),trivial⟩ (by simp)
    replace J:=Hd (J.out.go hb);have hq:=HF.out.2.2.2.2.2;refine Cl 15 (afE (J.out.at_.2.2.2.2.2.1.aQ 0 0) (J.out.at_.2.2.2.2.2.1.aQ 1 0) J.out.at_.2.2.2.2.2.2.1 J.out.at_.2.2.2.2.2.2.2 sq hq.1 hq.2.1 hq.2.2 (by omega)) ?_;clear hb sq hX hq;intro e w6 hw;obtain⟨u6,rfl,⟨A6,n6,c6,B6,m6,d6,rfl,s1,s2⟩,hb⟩:=hw;obtain⟨p6,hp6⟩:=aC (r6).1.1;obtain⟨q6,hq6⟩:=aC (r6).2.1;rw[hp6,hq6];obtain⟨afv,hV6,hb2,F⟩:=fP (w:=w6) ((Fr.nil w6).a w6.heap.size [.bool p6,.slice A6 n6 c6,.bool q6,.slice B6 m6 d6] 30);replace J:=Hd (((J.out.go hb).go hb2).add (fun V hV=>And.intro (F.go hV) (show RV V [] (.agg #[.bool p6,.slice A6 n6 c6,.bool q6,.slice B6 m6 d6]) (r6)from⟨_,_,_,_,_,_,by rw[hp6,hq6],(s1.go hb2).go hV,(s2.go hb2).go hV⟩)));clear hb hb2 F s1 s2 hp6 hq6;have o5:=opc J.out.at_.2.1.1;have o6:=opc J.out.at_.1.1;clear HF HX;gi_wp2;refine Cl 13 (mg J.out.at_.2.1.2 J.out.at_.1.2) ?_;rintro e w7 ⟨rfl,hb⟩;rw[decide_eq_true h56];replace J:=Hd (J.out.go hb);clear hb o5 o6;have o1:=opc J.out.at_.2.2.2.2.2.1.1;have o2:=opc J.out.at_.2.2.2.2.1.1;gi_wp2;refine Cl 13 (mg J.out.at_.2.2.2.2.2.1.2 J.out.at_.2.2.2.2.1.2) ?_;rintro e w8 ⟨rfl,hb⟩;rw[decide_eq_true h12];replace J:=Hd (J.out.go hb);clear hb o1 o2;have o3:=opc J.out.at_.2.2.2.1.1;have o4:=opc J.out.at_.2.2.1.1;gi_wp2;refine Cl 13 (mg J.out.at_.2.2.2.1.2 J.out.at_.2.2.1.2) ?_;rintro e w9 ⟨rfl,hb⟩;rw[decide_eq_true h34];replace J:=Hd (J.out.go hb);clear hb o3 o4;gi_wp2;go_ret;exact⟨rfl,J.out.at_.2.2.2.2.2.2.1.bl⟩
   have agE:50<n:=by omega
   clear hc hw1;gi_wp2;go_ret;exact⟨rfl,J.out.at_.1.bl⟩
  rw[AQ hc];clear hc hw1;gi_wp2;go_ret;exact⟨rfl,J.out.at_.1.bl⟩
end U
end
section
open Go.ChangeShapes Go.WideShapes Go.ChangeAt Go.RowKit Go.Deep Go.Joins
section
set_option maxRecDepth 100000
theorem Tryz.own:ownKnob Tryz.prog.godebug=none:=by kernel_rfl
theorem Tryz.laidOut:laidOutB Tryz.prog=true:=by kernel_rfl
theorem FK:Opens (List Int) Tryz.prog 26:=iI Tryz.underlying26 (by kernel_rfl) (by decide+kernel) (QU Tryz.underlying3)
theorem Ba:Opens lG Tryz.prog 28:=fG Tryz.underlying28 (by kernel_rfl) (aX rfl (by kernel_rfl) (qP Tryz.underlying4) (iL rfl (by kernel_rfl) FK))
theorem Bc:Opens RatR Tryz.prog 30:=fG Tryz.underlying30 (by kernel_rfl) (aX rfl (by kernel_rfl) Ba (iL rfl (by kernel_rfl) Ba))
theorem Na:Opens InsR Tryz.prog 38:=fG Tryz.underlying38 (by kernel_rfl) (aX rfl (by kernel_rfl) (QU Tryz.underlying3) (aX rfl (by kernel_rfl) (QU Tryz.underlying3) (aX rfl (by kernel_rfl) (QU Tryz.underlying3) (aX rfl (by kernel_rfl) (QU Tryz.underlying3) (aX rfl (by kernel_rfl) (QU Tryz.underlying3) (iL rfl (by kernel_rfl) Bc))))))
theorem FW:Opens (List InsR) Tryz.prog 22:=iI Tryz.underlying22 (by kernel_rfl) (by decide+kernel) Na
theorem GI:Opens (List RatR) Tryz.prog 23:=iI Tryz.underlying23 (by kernel_rfl) (by decide+kernel) Bc
section
variable {H:Type}{enc:TypeId×Value→H}{W:World}{v:Value}{d:DataW H}{p:List MemPlace}{b:Nat}
theorem R_(hv:Value.okWide Tryz.prog W .any b 22 v)(h:DataW.Trod enc Tryz.prog W 0 (fun _=>true) true 22 v d p)(hw:∀n,n∈d.weights Tryz.prog 22->n<=reachBytes):
 ∃A n c xs,v=.slice A n c/\Sl InsR W [] A n c xs:=by
 obtain⟨A,n,c,rfl⟩:=okWide_slice Tryz.underlying22 hv;obtain⟨fuel,hf⟩:=h;obtain⟨xs,A',n',c',e,hs⟩:=FW H enc W true fuel _ d p hf hw;exact agI
theorem Si(hv:Value.okWide Tryz.prog W .any b 23 v)(h:DataW.Trod enc Tryz.prog W 0 (fun _=>true) true 23 v d p)(hw:∀n,n∈d.weights Tryz.prog 23->n<=reachBytes):
 ∃A n c xs,v=.slice A n c/\Sl RatR W [] A n c xs:=by
 obtain⟨A,n,c,rfl⟩:=okWide_slice Tryz.underlying23 hv;obtain⟨fuel,hf⟩:=h;obtain⟨xs,A',n',c',e,hs⟩:=GI H enc W true fuel _ d p hf hw;exact agI
end
end
section
set_option maxRecDepth 100000
section
variable {H:Type}{enc:TypeId×Value→H}{W:World}{v:Value}{d:DataW H}{p:List MemPlace}{b:Nat}
theorem agl(hv:Value.okWide Tryz.prog W .any b 5 v)(h:DataW.Trod enc Tryz.prog W 0 (fun _=>true) true 5 v d p):∃x,v=.int .u8 x/\0<=x/\x<=255:=by obtain⟨x,rfl,-,-,wx⟩:=open_int Tryz.underlying5 hv h;have:=bounds_u8 wx;exact⟨x,rfl,by omega,by omega⟩
end
end
end
section
section
set_option maxRecDepth 100000
theorem af4:((Rows.codeSelectsRow.inPlace==Tryz.prog.inPlace 6))=true:=by kernel_rfl
theorem afT:((Rows.codeSelectsRow.named==Tryz.prog.varsNamed 6))=true:=by kernel_rfl
end
section
set_option maxRecDepth 100000
theorem afU:((Rows.codeSelectsRow.unfollowed==Tryz.prog.unfollowed 6))=true:=by kernel_rfl
theorem afV:((Rows.codeSelectsRow.recurses==Tryz.prog.recurses 6))=true:=by kernel_rfl
end
section
set_option maxRecDepth 100000
theorem gB{a b:Bool}(h:a=true)(k:b=true):(a&&b)=true:=by rw[h,k];rfl
theorem kr{p:Prop}(h:p:=by kernel_rfl):p:=h
theorem afL:joinedFacts Tryz.prog 6 Tryz.f6 Rows.codeSelectsSpec Rows.codeSelectsRow=true:=by unfold joinedFacts;exact gB (gB (gB (gB (gB (gB (gB (gB (gB (gB (gB (gB (gB (gB (gB (gB (gB (gB (gB (gB (gB (gB (gB (gB (gB (gB (gB (gB (gB (gB (gB kr kr) kr) kr) kr) kr) kr) kr) kr) af4) afU) afV) afT) kr) kr) kr) kr) kr) kr) kr) kr) kr) kr) kr) kr) kr) kr) kr) kr) kr) kr) kr
end
open Go.ChangeShapes Go.WideShapes Go.ChangeAt Go.RowKit
section
set_option maxRecDepth 100000
theorem door_met(os:Os)(args:Array Value):laidMetH Tryz.prog Rows.codeSelectsRow.laid ((World.doorLaid Tryz.prog 400 os).forCall (fun _ _=>0) ⟨#[],args, []⟩).memory:=laidMetH_of_parts3 (fuel:=8) (laidMet_of_run' 8 (by kernel_rfl) (by kernel_rfl)) (by kernel_rfl) (by kernel_rfl)
theorem aau{W:World}(h:laidMetH Tryz.prog Rows.codeSelectsRow.laid W):Tab W:=by rw[MakeChecks.laidMetH_plain _ _ _ (by kernel_rfl)]at h;exact Lib.tabIs_of_head (t:=271) (e:=5) (g:=0) (n:=256) (rest:= []) (by kernel_rfl) (by kernel_rfl) Tryz.underlying271 Tryz.underlying5 (by kernel_rfl) (by kernel_rfl) (laidMet.tail h)
theorem afM(os:Os)(started:os.Started)(H:Type)(enc:TypeId×Value->H):
 ReturnsInHanded {} Tryz.checked os 6 .any (fun w args=>(Rows.codeSelectsSpec.pre enc Tryz.prog Tryz.f6 [] false w args/\laidMetH Tryz.prog Rows.codeSelectsRow.laid w)/\sizedMet enc Tryz.prog Tryz.f6 (OpenSpec.ofChange Rows.codeSelectsSpec) false w args) (Rows.codeSelectsSpec.post enc Tryz.prog Tryz.f6 false true false false):=by
 refine returnsInHanded_of_change_and (C:=Tryz.checked) (X:=fun w _=>laidMetH Tryz.prog Rows.codeSelectsRow.laid w) (fun _ _ _ hh h=>h.of_heap hh) Tryz.own started (by kernel_rfl) Tryz.func6 (ChangeSpec.witness_shaped (enc:=enc) (C:=Tryz.checked) (os:=os) (X:=fun w _=>laidMetH Tryz.prog Rows.codeSelectsRow.laid w) false (World.doorLaid Tryz.prog 400 os) #[.slice none 0 0,.slice none 0 0,.int .u8 0,.int .u8 0] 8 rfl (World.shaped_of_RefB (by kernel_rfl) (by kernel_rfl)) (by kernel_rfl) (by kernel_rfl) (by kernel_rfl) (door_met os _)) ?_;intro W base args ds gs before hval0 hW _ hsz0 hL _;have hsz:(DataW.weightsEach Tryz.prog (Tryz.f6.params.toList++Rows.codeSelectsSpec.plain.varTypes Tryz.prog) (ds++gs)).all (· <=reachBytes)=true:=hsz0;have hval:∀(j:Nat) t v,Tryz.f6.params[j]?=some t->args[j]?=some v->Value.okWide Tryz.prog W .any base t v:=hval0;have hW':=hW;have hlt:=hW.lt;obtain⟨p,q,hA0,hV,rfl,hfz,hnd⟩:=hW;have hA:DataW.TrodAll enc Tryz.prog W 0 (fun _=>true) true Tryz.f6.params.toList args.toList ds p:=hA0;rw[Tryz.params6]at hA hval hsz;obtain⟨v0,v1,v2,v3,d0,d1,d2,d3,p0,p1,p2,p3,rfl,rfl,rfl,h0,h1,h2,h3⟩:=trodAll_four hA;obtain⟨rfl,rfl⟩:=trodVars_none hV;clear hA0 hval0 hsz0;have hwt:∀(j:Nat) (t:TypeId) (d:DataW H), [22,23,5,5][j]?=some t-> [d0,d1,d2,d3][j]?=some d->∀n,n∈d.weights Tryz.prog t->n<=reachBytes:=by
  intro j t d ht hd n hn;have:=List.all_eq_true.1 hsz n (DataW.weights_mem_each (j:=j) (by
   rw[List.getElem?_append_left (List.getElem?_eq_some_iff.1 ht).1];exact ht) (by
   rw[List.append_nil];exact hd) n hn)
  simpa using this
 obtain⟨A0,n0,c0,xs0,rfl,hx0⟩:=R_ (hval 0 _ _ rfl rfl) h0 (hwt 0 _ _ rfl rfl);obtain⟨A1,n1,c1,xs1,rfl,hx1⟩:=Si (hval 1 _ _ rfl rfl) h1 (hwt 1 _ _ rfl rfl);obtain⟨x2,rfl,hx2⟩:=agl (hval 2 _ _ rfl rfl) h2;obtain⟨x3,rfl,hx3⟩:=agl (hval 3 _ _ rfl rfl) h3;simp only[List.append_nil]at hW' hlt;refine(U.afS hx0 hx1 hx2 hx3 (aau hL)).mono fun e W' ⟨he,hb⟩=>?_;subst he;refine⟨_,rfl,_,_,_, [],p0++(p1++(p2++p3)), [],hW',trodAll_mk1 (shut_bool Tryz.underlying4 true),?_,rfl,hb.frame _,fun h=>by cases h⟩;exact trodAll_mk4 (hb.trod Tryz.laidOut (by kernel_rfl) (by decide+kernel) h0 (fun x hx=>hlt x (by simp[hx]))) (hb.trod Tryz.laidOut (by kernel_rfl) (by decide+kernel) h1 (fun x hx=>hlt x (by simp[hx]))) (hb.trod Tryz.laidOut (by kernel_rfl) (by decide+kernel) h2 (fun x hx=>hlt x (by simp[hx]))) (hb.trod Tryz.laidOut (by kernel_rfl) (by decide+kernel) h3 (fun x hx=>hlt x (by simp[hx])))
end
section
set_option maxRecDepth 100000
theorem afW:Rows.CodeSelectsSaid:=
 OpenClaim.holds_of_wide 6 Tryz.f6 rfl rfl rfl rfl rfl rfl rfl ⟨rfl,rfl,rfl,rfl,rfl⟩ rfl rfl rfl rfl rfl (by kernel_rfl) Tryz.func6 afL
  (of_decide_eq_true (by kernel_rfl)) (by unfold Func.isWrapper;rw[if_neg (of_decide_eq_false (by kernel_rfl))];exact⟨rfl,rfl⟩)
  (fun os started H enc _=>afM os started H enc)
end
end
end Go.Proofs.YtefnknhjlejalaaGreatDoor
