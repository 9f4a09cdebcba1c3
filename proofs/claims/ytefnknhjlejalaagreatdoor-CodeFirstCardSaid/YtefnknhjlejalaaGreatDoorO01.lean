/- Lemmas and walks; no statement is proved here. -/
import Derived.Test.YtefnknhjlejalaaGreatDoorRows
import Derived.JoinedOf
import Derived.Test.YtefnknhjlejalaaGreatDoorTie
import Derived.Test.YtefnknhjlejalaaGreatDoorCards
import Derived.LaidMore
import Derived.Stop.Joined
import Derived.Stop.LaidErr
import Derived.SevenTiedAt
import Derived.Test.YtefnknhjlejalaaGreatDoorM49
set_option linter.unusedVariables false
set_option linter.unusedSimpArgs false
set_option maxRecDepth 20000
set_option maxHeartbeats 6000000
namespace Go.Proofs.YtefnknhjlejalaaGreatDoor
open Go.Proofs.Tryz
theorem agf{p:Prop}(h:p:=by simp[Value.cells]at e;obtain⟨rfl,rfl,rfl⟩:=e;exact⟨A,n,c,xs,rfl,hs⟩):p:=h
variable {M:List Nat}{A B:Option Addr}{n c k:Nat}{m i m' op a f:Int}{l:List RatR}{w:World}{q:List InsR}
section
open Go.RowKit Go.Shelf
def afZ(M:List Nat)(r:RatR)(L E:Int)(w:World)(e:Ending)(w':World):Prop:=∃u,e=.returned (.tuple #[u,.int .i64 L,.int .i64 E])/\RV w' M u r/\Below w.heap.size w w'
theorem afK{m d:Nat}{p:List InsR}{fuel L E:Int}{r:RatR}(h:FwR p l)(hM:b_ M w)(hp:Sl InsR w M A n c p)(hl:Sl RatR w M B m d l)(hf:i64 fuel)(hE:oC p l fuel=E)(hL:aat p l fuel=L)(hV:Bj p l fuel=r):
 Calls prog 9 #[.slice A n c,.slice B m d,.int .i64 fuel] w (afZ M r L E w):=by
 subst hE hL hV;exact RY h hM hp hl hf
end
theorem afP{n j:Int}(h:bf n i=true)(hij:i<=j):bf n j=true:=decide_eq_true (by have:=of_decide_eq_true h;omega)
theorem afQ{x:InsR}(h:aj i m x=true)(hm:m<=m'):aj i m' x=true:=by
 obtain⟨op,a,b,c,d,r⟩:=x;simp only[aj]at h |-;by_cases h1:op=1;·rw[if_pos h1]at h |-;exact h
 rw[if_neg h1]at h |-;by_cases h2:op=2;·rw[if_pos h2]at h |-;simp only[Bool.and_eq_true]at h |-;exact⟨⟨⟨⟨afP h.1.1.1.1 hm,h.1.1.1.2⟩,h.1.1.2⟩,h.1.2⟩,h.2⟩
 rw[if_neg h2]at h |-;exact h
theorem afF{m m':Int}(hm:m<=m'):∀{p:List InsR}{i:Int},iy m i p=true->iy m' i p=true
 | [],_,_=>rfl
 |x::p,i,h=>by simp only[iy,Bool.and_eq_true]at h |-;exact⟨afQ h.1 hm,afF hm h.2⟩
theorem afx{m:Int}:∀{p:List InsR}{i:Int}(k:Nat),iy m i p=true->iy m i (p.take k)=true
 | [],_,_,_=>by simp[iy]
 |_::_,_,0,_=>rfl
 |x::p,i,k+1,h=>by simp only[iy,Bool.and_eq_true,List.take_succ_cons]at h |-;exact⟨h.1,afx k h.2⟩
theorem afy{m:Int}:∀{p q:List InsR}{i:Int},iy m i p=true->iy m (i+(p.length:Int)) q=true->iy m i (p++q)=true
 | [],_,i,_,h=>by simpa using h
 |x::p,q,i,h,h2=>by
  simp only[iy,Bool.and_eq_true,List.cons_append]at h |-;refine⟨h.1,afy h.2 ?_⟩
  rwa [List.length_cons,show i+((p.length+1:Nat):Int)=i+1+(p.length:Int) by omega]at h2
theorem afH{p:List InsR}(h1:1<=p.length)(h2:p.length<=4096)(h:iy m 0 p=true):fC p m=0:=(yj p m).2 ⟨⟨h1,h2⟩,h⟩
theorem afU{p:List InsR}(h:fC p m=0)(hm:m<=m'):fC p m'=0:=by obtain⟨⟨h1,h2⟩,h3⟩:=(yj p m).1 h;exact afH h1 h2 (afF hm h3)
theorem afM{p:List InsR}(h:fC p m=0)(h1:1<=k)(hk:k<=p.length):fC (p.take k) m=0:=by obtain⟨⟨-,h2⟩,h3⟩:=(yj p m).1 h;exact afH (by rw[List.length_take];omega) (by rw[List.length_take];omega) (afx k h3)
def afJ(op a b c d:Int):InsR:=(op,a,b,c,d,((false, []),(false, [])))
theorem afR(op a b c d:Int):Few3 (afJ op a b c d).2.2.2.2.2:=⟨by simp[afJ],by simp[afJ]⟩
theorem afN{b:Int}(ho:op=3\/op=6\/op=7)(ha:bf a i=true)(hb:bf b i=true):aj i m (afJ op a b 0 0)=true:=by rcases ho with rfl|rfl|rfl<;>simp[aj,afJ,ha,hb,kW]
theorem afO{p:List InsR}(h:fC p m=0)(hl:(p++q).length<=4096)(hq:iy m (p.length:Int) q=true):fC (p++q) m=0:=by obtain⟨⟨h1,-⟩,h3⟩:=(yj p m).1 h;exact afH (by rw[List.length_append];omega) hl (afy h3 (by rwa [Int.zero_add]))
theorem afS(p:List InsR)(ins:List Rt)(x:InsR):zJ (p++ [x]) ins=rG ins (jf ins [] p) x:=by unfold zJ;rw[uZ,List.length_append,List.length_singleton];unfold aW;have hl:=AA ins p [];rw[List.length_nil,Nat.zero_add]at hl;rw[show(((p.length+1:Nat):Int)-1).toNat=(jf ins [] p).length by omega];simp
theorem min_self(a:Rt):yc a a=a:=by unfold yc;split<;>rfl
def afA(l:List RatR):Int:=if l.all dF=true then 0 else 100
theorem afL{p:List InsR}(hc:fC p l.length=0)(hf:(p.length:Int)<=f):oC p l f=afA l:=by unfold oC afA;rw[if_pos hc,if_neg (show ¬f<(p.length:Int) by omega)]
theorem afX{p:List InsR}(h:oC p l f=0):aat p l f=f-p.length:=by rw[aat,if_pos h]
theorem afY{p:List InsR}(h:oC p l f=0):Bj p l f=jd (zJ p (l.map OE)):=by rw[Bj,if_pos h]
theorem FwR.of{p:List InsR}(h:FwR p l)(hp:p.length<=64)(hq:q.length<=64)(hs:∀x,x∈q->x∈p\/Few3 x.2.2.2.2.2):FwR q l:=⟨.inl hq,fun _ x hx=>(hs x hx).elim (fun e=>h.fp hp x e) id,h.nl,h.fl⟩
theorem Fw19.short{p:List InsR}(h:Fw19 p l)(hc:fC p m=0):1<=p.length/\p.length<=60:=by have h1:=((yj p m).1 hc).1;have h2:=h.np;omega
theorem afG(h:(k:Int)<i):bf k i=true:=decide_eq_true ⟨by omega,h⟩
def mo1(p:List InsR)(k:Nat):List InsR:=p.take (k+1)++ [afJ 6 k k 0 0]
structure af0(p:List InsR)(l:List RatR)(k:Nat):Prop where
 c1:fC (p.take (k+1)) l.length=0
 c2:fC p ((l.length:Int)+1)=0
 w1:FwR (p.take (k+1)) l
 w2:FwR (mo1 p k) l
 e1:oC (p.take (k+1)) l 100=afA l
 e2:oC (mo1 p k) l 100=afA l
 l1:afA l=0->aat (p.take (k+1)) l 100=100-((k+1:Nat):Int)
 l2:afA l=0->aat (mo1 p k) l 100=100-((k+1:Nat):Int)-1
 v:afA l=0->Bj (mo1 p k) l 100=Bj (p.take (k+1)) l 100
theorem af2{p:List InsR}(hw:Fw19 p l)(hc:fC p l.length=0)(hk:k<p.length):af0 p l k:=by
 obtain⟨h1,h60⟩:=hw.short hc;have tl:(p.take (k+1)).length=k+1:=by rw[List.length_take];omega
 have ml:(mo1 p k).length=k+2:=by rw[mo1,List.length_append,tl];rfl
 have c1:=afM (k:=k+1) hc (by omega) (by omega);have cm:fC (mo1 p k) l.length=0:=afO c1 (by rw[<-mo1,ml];omega) (by rw[tl,iy,iy,Bool.and_true];exact afN (.inr (.inl rfl)) (afG (by omega)) (afG (by omega)));have e1:=afL (f:=100) c1 (by rw[tl];omega);have e2:=afL (f:=100) cm (by rw[ml];omega);refine⟨c1,afU hc (by omega),hw.r.of (by omega) (by omega) (fun x hx=>.inl (List.mem_of_mem_take hx)),hw.r.of (by omega) (by omega) (fun x hx=>?_),e1,e2,fun h=>?_,fun h=>?_,fun h=>?_⟩
 ·rcases List.mem_append.1 hx with hx|hx;·exact .inl (List.mem_of_mem_take hx)
  rw[List.mem_singleton]at hx;subst hx;exact .inr (afR _ _ _ _ _)
 ·rw[afX (e1.trans h),tl]
 ·rw[afX (e2.trans h),ml];omega
 rw[afY (e2.trans h),afY (e1.trans h),mo1,afS];congr 1;show yc (aW _ (k:Int)) (aW _ (k:Int))=_;rw[min_self];unfold zJ;rw[tl];congr 1;omega
theorem af4(l:List RatR):afA l=0\/afA l=100:=by unfold afA;split<;>simp
theorem af0.ex{p:List InsR}(h:af0 p l k):∃E L1 L2 r1 r2,oC (p.take (k+1)) l 100=E/\oC (mo1 p k) l 100=E/\aat (p.take (k+1)) l 100=L1/\aat (mo1 p k) l 100=L2/\Bj (p.take (k+1)) l 100=r1/\Bj (mo1 p k) l 100=r2/\
 ((E=0/\L1=100-((k+1:Nat):Int)/\L2=100-((k+1:Nat):Int)-1/\r2=r1)\/E=100):=by
 refine⟨_,_,_,_,_,h.e1,h.e2,rfl,rfl,rfl,rfl,?_⟩;rcases af4 l with e|e;·exact .inl ⟨e,h.l1 e,h.l2 e,h.v e⟩
 ·exact .inr e
section
open Go.RowKit Go.Shelf
attribute [local go_sem] Oper.semAt_some
theorem afT(h0:0<=a)(hn:0<n):∃k:Nat,k<n/\a.tmod (n:Int)=(k:Int):=by have h1:0<=a.tmod (n:Int):=Int.tmod_nonneg _ h0;have h2:a.tmod (n:Int)<(n:Int):=Int.tmod_lt_of_pos _ (by omega);exact⟨(a.tmod (n:Int)).toNat,by omega,by omega⟩
theorem afV{b c d:Int}(hi:i64 op/\i64 a/\i64 b/\i64 c/\i64 d):Rep.rd w M (afJ op a b c d) [.int .i64 op,.int .i64 a,.int .i64 b,.int .i64 c,.int .i64 d,.bool false,.slice none 0 0,.bool false,.slice none 0 0]:=zM (r:=((false, []),(false, []))) hi Sl.nil0 Sl.nil0
theorem afW{α:Type} [kJ α] {t e:TypeId}{xs:List α}(ht:prog.underlying t=some (.slice e))(hi:iU e (Rep.sz α))(hs:Sl α w [] A n c xs)(hn:n<=1000):
 ∃A' c' w',(Builtin.append_ #[t,t] t #[.slice (some ⟨w.heap.size,0,none⟩) 0 0,.slice A n c]).run prog (w.alloc (.cells #[] e))=.ok (.slice A' n c') w'/\bD α e w' [] w.heap.size (.slice A' n c') n xs/\Below w.heap.size w w':=by
 obtain⟨i,z,i1,i2,i3,i4,i5⟩:=hi;have hb:Below w.heap.size w (w.alloc (.cells #[] e)):=by exact bel
 obtain⟨v',w',r1,r2,r3,-⟩:=(bD.lit (α:=α) (e:=e) w [] (Nat.le_refl w.heap.size)).uy (t:=t) (ty:=t) (by simp) ht i1 i2 i3 i4 ((hs.more (Nat.le_refl _)).go hb) (Nat.le_trans (Nat.mul_le_mul (show 0+n<=1000 by omega) i5) (by decide)) (by omega);rw[Nat.zero_add,List.nil_append]at r2;obtain⟨A',c',rfl⟩:=r2.shape;exact⟨A',c',w',r1,r2,hb.grown r3 (by simp) (fun k hk=>by simp only[Value.ownBlock,Option.some.injEq]at hk;omega)⟩
theorem afz{m d:Nat}{p:List InsR}(hp:Sl InsR w [] A n c p)(hl:Sl RatR w [] B m d l)(ha:0<=a/\a<=255)(ht:Tab w):
 CB 4 #[.slice A n c,.slice B m d,.int .u8 a] (.bool true) w:=by
 refine wid ?_;have hcp:=hp.cap;have hpl:=hp.len;have hll:=hl.len;have HL:=fB hcp hpl hll;clear hcp hpl hll;have hsp:=hp.small;have hsl:=hl.small;have J:=Hd (show St w (fun V=>K19 w A n c p B m d l V) by unfold St;exact fun V h=>⟨hp.go h,hl.go h,h⟩);have HT:=Hd ht;clear hp hl ht;refine ent func4 rfl ntmps4 ?_;gi_wp2;refine Cl 7 (FH HT.out) ?_;rintro e w2 ⟨rfl,hb⟩;replace J:=Hd (J.out.go hb);clear hb HT;gi_wp2;refine Cl 8 (few19_any J.out.at_.1 J.out.at_.2.1) ?_;intro e w3 hw;obtain⟨b,rfl,hP,hb⟩:=hw.of;replace J:=Hd (J.out.go hb);clear hb;cases b;·gi_wp2;refine⟨trivial,?_⟩;gi_wp2;go_ret;exact⟨rfl,J.out.at_.2.2⟩
 ·have hw:=hP rfl;clear hP;gi_wp2;refine Cl 12 (vO (M:= []) A n c p (m:Int) _ (b_.nil _) J.out.at_.1) ?_;rintro e w4 ⟨rfl,hb⟩;replace J:=Hd (J.out.go hb);clear hb;by_cases hc:fC p m=0
  ·rw[hc];rw[<-HL.out.2.2]at hc;obtain⟨h1,h60⟩:=hw.short hc;rw[HL.out.2.1]at h1 h60;obtain⟨kk,hkk,hr⟩:=afT ha.1 (show 0<n by omega);have FF:=af2 (k:=kk) hw hc (by rw[HL.out.2.1];exact hkk);have Ny:=Hd FF;have hn0:¬(n:Int)=0:=by omega
   have hnn:¬n=0:=by omega
   have hwa:IntKind.i64.wrap a=a:=by rw[IntKind.wrap_i64];omega
   have hwk:IntKind.i64.wrap (kk:Int)=(kk:Int):=by rw[IntKind.wrap_i64];omega
   obtain⟨k,hk⟩:=aC (kk+1);have af_:IntKind.i64.wrap ((kk:Int)+1)=(k:Int):=by rw[IntKind.wrap_i64];omega
   have aga:IntKind.i64.wrap ((k:Int)-1)=(kk:Int):=by rw[IntKind.wrap_i64];omega
   have hwm:IntKind.i64.wrap ((m:Int)+1)=(m:Int)+1:=by rw[IntKind.wrap_i64];omega
   have hwl:IntKind.i64.wrap (100-(k:Int))=100-(k:Int):=by rw[IntKind.wrap_i64];omega
   have agb:IntKind.i64.wrap (100-(k:Int)-1)=100-(k:Int)-1:=by rw[IntKind.wrap_i64];omega
   have hkn:k<=n:=by omega
   have agc:k<=60:=by omega
   have sl:=nZ (k:=k) underlying22 (sz:=9) (fun w=>by kernel_rfl) A hkn HL.out.1;have HK:=Hd hk;clear hc hw FF h1 h60 hk;gi_wp2;have X:=qU (M:= []) A k c (p.take k) (m:Int) w4 (b_.nil _) (J.out.at_.1.nY hkn);rw[<-HL.out.2.2,<-HK.out,Ny.out.c1]at X;rw[HK.out]at X;refine Cl 11 (HL.out.2.2▸X) ?_;clear X;rintro e w5 ⟨rfl,hb⟩;replace J:=Hd (J.out.go hb);clear hb;gi_wp2;have X:=qU (M:= []) A n c p ((m:Int)+1) w5 (b_.nil _) J.out.at_.1;rw[<-HL.out.2.2,Ny.out.c2]at X;refine Cl 11 (HL.out.2.2▸X) ?_;clear X;rintro e w6 ⟨rfl,hb⟩;replace J:=Hd (J.out.go hb);clear hb;gi_wp2;obtain⟨E,L1,L2,r1,r2,e1,e2,f1,f2,g1,g2,hX⟩:=Ny.out.ex;rw[HK.out]at e1 f1 g1 hX;have HX:=Hd hX;have HE1:=fB e1 f1 g1;have HE2:=fB e2 f2 g2;have w1:=Ny.out.w1;rw[HK.out]at w1;have HW:=Hd2 w1 Ny.out.w2;clear e1 e2 f1 f2 g1 g2 hX w1 Ny;refine Cl 9 (afK (fuel:=100) HW.out.1 (b_.nil _) (J.out.at_.1.nY hkn) J.out.at_.2.1 j1 HE1.out.1 HE1.out.2.1 HE1.out.2.2) ?_;intro e w7 hw;unfold afZ at hw;obtain⟨u7,rfl,⟨A7,n7,c7,B7,m7,d7,rfl,s1,s2⟩,hb⟩:=hw;obtain⟨p7,hp7⟩:=aC (r1).1.1;obtain⟨q7,hq7⟩:=aC (r1).2.1;rw[hp7,hq7];obtain⟨V7,hV7,hb2,F⟩:=fP (w:=w7) ((Fr.nil w7).a w7.heap.size [.bool p7,.slice A7 n7 c7,.bool q7,.slice B7 m7 d7] 30);replace J:=Hd (((J.out.go hb).go hb2).add (fun V hV=>And.intro (F.go hV) (show RV V [] (.agg #[.bool p7,.slice A7 n7 c7,.bool q7,.slice B7 m7 d7]) (r1)from⟨_,_,_,_,_,_,by rw[hp7,hq7],(s1.go hb2).go hV,(s2.go hb2).go hV⟩)));clear hb hb2 F s1 s2 hp7 hq7;obtain⟨W9,hW9⟩:=aC (V7.alloc (.cells #[] 38));obtain⟨X1,y1,w10,t1,af5,b10⟩:=afW (t:=22) underlying22 MK (J.out.at_.2.1.nY hkn) (by omega);rw[hW9]at t1;obtain⟨v2,w12,t2,af9,g2,-⟩:=af5.app1 (t:=22) underlying22 MK b10.size (b_.nil _) (afV (op:=6) (a:=(kk:Int)) (b:=(kk:Int)) (c:=0) (d:=0) (by unfold i64;omega)) (by omega);obtain⟨X2,y2,rfl,s2⟩:=af9.sl (by omega) (fun _ h=>by cases h);have b12:Below V7.heap.size V7 w12:=b10.grown g2 b10.size (fun g hg=>(af5.lt hg).1);replace s2:Sl InsR w12 [] X2 (k+1) y2 (mo1 p kk):=by rw[mo1,HK.out];exact s2
   replace J:=Hd ((J.out.go b12).add (fun V hV=>s2.go hV));have HA:=Hd2 t1 t2;clear t1 t2 af5 af9 g2 b10 b12 s2
   gi_wp2_with (first
    |(gi_at_builtin;refine wpListIn_plain rfl fun K hK'=>?_;refine aI _ _ _ rfl rfl rfl HA.out.2 (hK' _ _ ?_);clear hK' K)
    |(gi_at_builtin;refine wpListIn_plain rfl fun K hK'=>?_;refine aI _ _ _ rfl rfl rfl HA.out.1 (hK' _ _ ?_);clear hK' K)
    |fail)
   refine Cl 9 (afK (fuel:=100) HW.out.2 (b_.nil _) J.out.at_.1 J.out.at_.2.2.2.1 j1 HE2.out.1 HE2.out.2.1 HE2.out.2.2) ?_;intro e w13 hw;unfold afZ at hw;obtain⟨u13,rfl,⟨A13,n13,c13,B13,m13,d13,rfl,s1,s2⟩,hb⟩:=hw;obtain⟨p13,af6⟩:=aC (r2).1.1;obtain⟨q13,af7⟩:=aC (r2).2.1;rw[af6,af7];obtain⟨V13,agd,hb2,F⟩:=fP (w:=w13) ((Fr.nil w13).a w13.heap.size [.bool p13,.slice A13 n13 c13,.bool q13,.slice B13 m13 d13] 30);replace J:=Hd (((J.out.go hb).go hb2).add (fun V hV=>And.intro (F.go hV) (show RV V [] (.agg #[.bool p13,.slice A13 n13 c13,.bool q13,.slice B13 m13 d13]) (r2)from⟨_,_,_,_,_,_,by rw[af6,af7],(s1.go hb2).go hV,(s2.go hb2).go hV⟩)));clear hb hb2 F s1 s2 af6 af7;rcases HX.out with⟨rfl,rfl,rfl,rfl⟩|rfl;·have o7:=opc J.out.at_.2.2.1.1;have o13:=opc J.out.at_.1.1;gi_wp2;refine Cl 13 (mg J.out.at_.2.2.1.2 J.out.at_.1.2) ?_;rintro e w14 ⟨rfl,hb⟩;rw[decide_eq_true rfl];replace J:=Hd (J.out.go hb);clear hb;gi_wp2;go_ret;exact⟨by simp,J.out.at_.2.2.2.2.2⟩
   gi_wp2;go_ret;exact⟨by simp,J.out.at_.2.2.2.2.2⟩
  rw[AQ hc];clear hc hw;gi_wp2;go_ret;exact⟨rfl,J.out.at_.2.2⟩
end
section
open Go.ChangeShapes Go.WideShapes Go.ChangeAt Go.RowKit Go.Deep Go.Joins
section
set_option maxRecDepth 100000
theorem own:ownKnob prog.godebug=none:=by kernel_rfl
theorem laidOut:laidOutB prog=true:=by kernel_rfl
theorem FK:Opens (List Int) prog 26:=iI underlying26 (by kernel_rfl) (by decide+kernel) (QU underlying3)
theorem Ba:Opens lG prog 28:=fG underlying28 (by kernel_rfl) (aX rfl (by kernel_rfl) (qP underlying4) (iL rfl (by kernel_rfl) FK))
theorem Bc:Opens RatR prog 30:=fG underlying30 (by kernel_rfl) (aX rfl (by kernel_rfl) Ba (iL rfl (by kernel_rfl) Ba))
theorem Na:Opens InsR prog 38:=fG underlying38 (by kernel_rfl) (aX rfl (by kernel_rfl) (QU underlying3) (aX rfl (by kernel_rfl) (QU underlying3) (aX rfl (by kernel_rfl) (QU underlying3) (aX rfl (by kernel_rfl) (QU underlying3) (aX rfl (by kernel_rfl) (QU underlying3) (iL rfl (by kernel_rfl) Bc))))))
theorem FW:Opens (List InsR) prog 22:=iI underlying22 (by kernel_rfl) (by decide+kernel) Na
theorem GI:Opens (List RatR) prog 23:=iI underlying23 (by kernel_rfl) (by decide+kernel) Bc
section
variable {H:Type}{enc:TypeId×Value→H}{W:World}{v:Value}{d:DataW H}{p:List MemPlace}{b:Nat}
theorem R_(hv:Value.okWide prog W .any b 22 v)(h:DataW.Trod enc prog W 0 (fun _=>true) true 22 v d p)(hw:∀n,n∈d.weights prog 22->n<=reachBytes):
 ∃A n c xs,v=.slice A n c/\Sl InsR W [] A n c xs:=by
 obtain⟨A,n,c,rfl⟩:=okWide_slice underlying22 hv;obtain⟨fuel,hf⟩:=h;obtain⟨xs,A',n',c',e,hs⟩:=FW H enc W true fuel _ d p hf hw;exact agf
theorem Si(hv:Value.okWide prog W .any b 23 v)(h:DataW.Trod enc prog W 0 (fun _=>true) true 23 v d p)(hw:∀n,n∈d.weights prog 23->n<=reachBytes):
 ∃A n c xs,v=.slice A n c/\Sl RatR W [] A n c xs:=by
 obtain⟨A,n,c,rfl⟩:=okWide_slice underlying23 hv;obtain⟨fuel,hf⟩:=h;obtain⟨xs,A',n',c',e,hs⟩:=GI H enc W true fuel _ d p hf hw;exact agf
end
end
section
set_option maxRecDepth 100000
section
variable {H:Type}{enc:TypeId×Value→H}{W:World}{v:Value}{d:DataW H}{p:List MemPlace}{b:Nat}
theorem af8(hv:Value.okWide prog W .any b 5 v)(h:DataW.Trod enc prog W 0 (fun _=>true) true 5 v d p):∃x,v=.int .u8 x/\0<=x/\x<=255:=by obtain⟨x,rfl,-,-,wx⟩:=open_int underlying5 hv h;have:=bounds_u8 wx;exact⟨x,rfl,by omega,by omega⟩
end
end
end
section
section
set_option maxRecDepth 100000
theorem afI:((Rows.codeFirstRow.inPlace==prog.inPlace 4))=true:=by kernel_rfl
theorem afB:((Rows.codeFirstRow.named==prog.varsNamed 4))=true:=by kernel_rfl
end
section
set_option maxRecDepth 100000
theorem afC:((Rows.codeFirstRow.unfollowed==prog.unfollowed 4))=true:=by kernel_rfl
theorem afD:((Rows.codeFirstRow.recurses==prog.recurses 4))=true:=by kernel_rfl
end
section
set_option maxRecDepth 100000
theorem gB{a b:Bool}(h:a=true)(k:b=true):(a&&b)=true:=by rw[h,k];rfl
theorem kr{p:Prop}(h:p:=by kernel_rfl):p:=h
theorem afv:joinedFacts prog 4 f4 Rows.codeFirstSpec Rows.codeFirstRow=true:=by unfold joinedFacts;exact gB (gB (gB (gB (gB (gB (gB (gB (gB (gB (gB (gB (gB (gB (gB (gB (gB (gB (gB (gB (gB (gB (gB (gB (gB (gB (gB (gB (gB (gB (gB kr kr) kr) kr) kr) kr) kr) kr) kr) afI) afC) afD) afB) kr) kr) kr) kr) kr) kr) kr) kr) kr) kr) kr) kr) kr) kr) kr) kr) kr) kr) kr
end
open Go.ChangeShapes Go.WideShapes Go.ChangeAt Go.RowKit
section
set_option maxRecDepth 100000
theorem door_met(os:Os)(args:Array Value):laidMetH prog Rows.codeFirstRow.laid ((World.doorLaid prog 400 os).forCall (fun _ _=>0) ⟨#[],args, []⟩).memory:=laidMetH_of_parts3 (fuel:=8) (laidMet_of_run' 8 (by kernel_rfl) (by kernel_rfl)) (by kernel_rfl) (by kernel_rfl)
theorem aau{W:World}(h:laidMetH prog Rows.codeFirstRow.laid W):Tab W:=by rw[MakeChecks.laidMetH_plain _ _ _ (by kernel_rfl)]at h;exact Lib.tabIs_of_head (t:=271) (e:=5) (g:=0) (n:=256) (rest:= []) (by kernel_rfl) (by kernel_rfl) underlying271 underlying5 (by kernel_rfl) (by kernel_rfl) (laidMet.tail h)
theorem afw(os:Os)(started:os.Started)(H:Type)(enc:TypeId×Value->H):
 ReturnsInHanded {} checked os 4 .any (fun w args=>(Rows.codeFirstSpec.pre enc prog f4 [] false w args/\laidMetH prog Rows.codeFirstRow.laid w)/\sizedMet enc prog f4 (OpenSpec.ofChange Rows.codeFirstSpec) false w args) (Rows.codeFirstSpec.post enc prog f4 false true false false):=by
 refine returnsInHanded_of_change_and (C:=checked) (X:=fun w _=>laidMetH prog Rows.codeFirstRow.laid w) (fun _ _ _ hh h=>h.of_heap hh) own started (by kernel_rfl) func4 (ChangeSpec.witness_shaped (enc:=enc) (C:=checked) (os:=os) (X:=fun w _=>laidMetH prog Rows.codeFirstRow.laid w) false (World.doorLaid prog 400 os) #[.slice none 0 0,.slice none 0 0,.int .u8 0] 8 rfl (World.shaped_of_RefB (by kernel_rfl) (by kernel_rfl)) (by kernel_rfl) (by kernel_rfl) (by kernel_rfl) (door_met os _)) ?_;intro W base args ds gs before hval0 hW _ hsz0 hL _;have hsz:(DataW.weightsEach prog (f4.params.toList++Rows.codeFirstSpec.plain.varTypes prog) (ds++gs)).all (· <=reachBytes)=true:=hsz0;have hval:∀(j:Nat) t v,f4.params[j]?=some t->args[j]?=some v->Value.okWide prog W .any base t v:=hval0;have hW':=hW;have hlt:=hW.lt;obtain⟨p,q,hA0,hV,rfl,hfz,hnd⟩:=hW;have hA:DataW.TrodAll enc prog W 0 (fun _=>true) true f4.params.toList args.toList ds p:=hA0;rw[params4]at hA hval hsz;obtain⟨v0,v1,v2,d0,d1,d2,p0,p1,p2,rfl,rfl,rfl,h0,h1,h2⟩:=trodAll_three hA;obtain⟨rfl,rfl⟩:=trodVars_none hV;clear hA0 hval0 hsz0;have hwt:∀(j:Nat) (t:TypeId) (d:DataW H), [22,23,5][j]?=some t-> [d0,d1,d2][j]?=some d->∀n,n∈d.weights prog t->n<=reachBytes:=by
  intro j t d ht hd n hn;have:=List.all_eq_true.1 hsz n (DataW.weights_mem_each (j:=j) (by
   rw[List.getElem?_append_left (List.getElem?_eq_some_iff.1 ht).1];exact ht) (by
   rw[List.append_nil];exact hd) n hn)
  simpa using this
 obtain⟨A0,n0,c0,xs0,rfl,hx0⟩:=R_ (hval 0 _ _ rfl rfl) h0 (hwt 0 _ _ rfl rfl);obtain⟨A1,n1,c1,xs1,rfl,hx1⟩:=Si (hval 1 _ _ rfl rfl) h1 (hwt 1 _ _ rfl rfl);obtain⟨x2,rfl,hx2⟩:=af8 (hval 2 _ _ rfl rfl) h2;simp only[List.append_nil]at hW' hlt;refine(afz hx0 hx1 hx2 (aau hL)).mono fun e W' ⟨he,hb⟩=>?_;subst he;refine⟨_,rfl,_,_,_, [],p0++(p1++p2), [],hW',trodAll_mk1 (shut_bool underlying4 true),?_,rfl,hb.frame _,fun h=>by cases h⟩;exact trodAll_mk3 (hb.trod laidOut (by kernel_rfl) (by decide+kernel) h0 (fun x hx=>hlt x (by simp[hx]))) (hb.trod laidOut (by kernel_rfl) (by decide+kernel) h1 (fun x hx=>hlt x (by simp[hx]))) (hb.trod laidOut (by kernel_rfl) (by decide+kernel) h2 (fun x hx=>hlt x (by simp[hx])))
end
section
set_option maxRecDepth 100000
theorem afE:Rows.CodeFirstSaid:=
 OpenClaim.holds_of_wide 4 f4 rfl rfl rfl rfl rfl rfl rfl ⟨rfl,rfl,rfl,rfl,rfl⟩ rfl rfl rfl rfl rfl (by kernel_rfl) func4 afv
  (of_decide_eq_true (by kernel_rfl)) (by unfold Func.isWrapper;rw[if_neg (of_decide_eq_false (by kernel_rfl))];exact⟨rfl,rfl⟩)
  (fun os started H enc _=>afw os started H enc)
end
end
end Go.Proofs.YtefnknhjlejalaaGreatDoor
