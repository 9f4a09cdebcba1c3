/- Lemmas and walks; no statement is proved here. -/
import Derived.Test.YtefnknhjlejalaaGreatDoorM38
import Derived.Test.YtefnknhjlejalaaGreatDoorM39
import Derived.Test.YtefnknhjlejalaaGreatDoorM37
set_option linter.unusedVariables false
set_option linter.unusedSimpArgs false
set_option maxRecDepth 20000
set_option maxHeartbeats 6000000
namespace Go.Proofs.YtefnknhjlejalaaGreatDoor
open Go.Proofs.Tryz Go.RowKit
variable {p:Prop}{w w':World}{e:Ending}{M:List Nat}{c:bT}{k:Nat}
section
open Go.Shelf
attribute [local go_sem] Oper.semAt_some
def iD(p:Prop)(w:World)(e:Ending)(w':World):Prop:=∃k:Int,e=.returned (.int .i64 k)/\(k=0->p)/\Below w.heap.size w w'
attribute [irreducible] iD
theorem iD.ok(h:e=.returned (.int .i64 0))(hp:p)(hb:Below w.heap.size w w'):iD p w e w':=by unfold iD;exact⟨0,h,fun _=>hp,hb⟩
theorem iD.of(h:iD p w e w'):∃k:Int,e=.returned (.int .i64 k)/\(k=0->p)/\Below w.heap.size w w':=by unfold iD at h;exact h
def Sound(r:aS):Prop:=ZH r/\F15 r/\(∃rk,T15 r rk)/\∀i x,r.rounds[i]?=some x->backOk r i x
theorem undef_not{b:Bool}(h:some undef=some (Value.bool b)):False:=by cases h
end
structure DF where
 name:ByteArray
 lo:Int
 hi:Int
 st:Int
 how:Int
 tr:Int
 rev:Bool
abbrev DF.cells(c:DF):List Value:= [.string c.name,.int .i64 c.lo,.int .i64 c.hi,.int .i64 c.st,.int .i64 c.how,.int .i64 c.tr,.bool c.rev]
def fJ(c:DF):Bool:=decide (0<=c.lo/\c.lo<c.hi/\c.hi<=1000/\1<=c.st/\0<=c.tr/\c.tr<=127/\1<=c.how/\c.how<=3/\(c.how≠2->c.tr=0)/\(c.hi-c.lo)%c.st=0)
def Nv(c:DF)(m:Int):Bool:=decide (c.lo<=m/\m<=c.hi/\(m-c.lo)%c.st=0)
def DI:List Int->Int->Int->Int
 | [],_,_=> -1
 |x::r,v,k=>if v=x then k else DI r v (k+1)
theorem Sz(A:Option Addr)(xs:List Int)(n c:Nat)(v:Int)(w:World)(hn:xs.length=n)(hm:n<=1000000)(hx:Sl Int w M A n c xs):
 Calls prog 152 #[.slice A n c,.int .i64 v] w fun e w'=>e=.returned (.int .i64 (DI xs v 0))/\w=w':=by
 have H:=Lib.hid hx;clear hx;go_enter func152,ntmps152;go_wp2;go_loop [8] (fun i=>∃k:Nat,k<=n/\i=.int .i64 k/\Hid (DI (xs.drop k) v k=DI xs v 0)) (fun i=>n-(intOf i).toNat);case atStart=>exact⟨0,by omega,rfl,rfl⟩
 case round=>
  obtain⟨k,hk,rfl,hr⟩:=hrel;by_cases hlt:k<n
  ·obtain⟨b,o,x,rfl,hc,_,hd,_⟩:=H.out.pR hlt;have hr2:=hr.out;rw[hd,DI]at hr2;by_cases he:v=x;·rw[if_pos he]at hr2;have hr3:=Lib.hid hr2;clear hr2 hd;subst he;go_wp2;go_ret;exact⟨jL hr3.out,rfl⟩
   rw[if_neg he]at hr2;have hr3:=Lib.hid hr2;clear hr2 hd;go_wp2;go_round;case rel=>exact⟨k+1,by omega,by go_num,hr3.out⟩
   case measure=>simp[intOf];omega
  ·have hr2:=hr.out;rw[List.drop_of_length_le (by omega),DI]at hr2;have hr3:=Lib.hid hr2;clear hr2;go_wp2;go_ret;exact⟨jL hr3.out,rfl⟩
theorem VK(v:Int):∀(xs:List Int) (k:Int),0<=k->(v∈xs->k<=DI xs v k)/\(v∉xs->DI xs v k= -1)
 | [],k,hk=>⟨fun h=>by simp at h,fun _=>rfl⟩
 |x::r,k,hk=>by
  have ih:=VK v r (k+1) (by omega);by_cases h:v=x;·subst h;simp[DI]
  simp only[DI,if_neg h,List.mem_cons];exact⟨fun g=>by have:=ih.1 (g.resolve_left h);omega,fun g=>ih.2 (fun e=>g (.inr e))⟩
theorem contains_eq(xs:List Int)(v:Int):decide (0<=DI xs v 0)=decide (v∈xs):=by
 have h:=VK v xs 0 (by omega);by_cases g:v∈xs;·simp[g,h.1 g]
 simp[g,h.2 g]
theorem rD(A:Option Addr)(xs:List Int)(n c:Nat)(v:Int)(w:World)(hn:xs.length=n)(hm:n<=1000000)(hx:Sl Int w M A n c xs):
 Calls prog 107 #[.slice A n c,.int .i64 v] w fun e w'=>e=.returned (.bool (decide (v∈xs)))/\w=w':=by
 have H:=Lib.hid hx;have E:=Lib.hid (contains_eq xs v);clear hx;go_enter func107,ntmps107;go_wp2_with (go_at_call 152;refine(Sz A xs n c v _ hn hm H.out).mono ?_;rintro e w' ⟨rfl,rfl⟩);go_ret;exact⟨wS E.out,rfl⟩
theorem sl3{b:Nat}{x y z:Int}(h0:w.cell? ⟨b,0,none⟩=some (.int .i64 x))(h1:w.cell? ⟨b,1,none⟩=some (.int .i64 y))(h2:w.cell? ⟨b,2,none⟩=some (.int .i64 z))
 (hx:i64 x) (hy:i64 y) (hz:i64 z):Sl Int w [] (some ⟨b,0,none⟩) 3 3 [x,y,z]:=by
 refine⟨rfl,Nat.le_refl _,by unfold jG;omega,by omega,.inr ⟨b,0,rfl,?_⟩⟩;intro k u hu
 match k,hu with
 |0,hu=>cases hu;exact⟨_,⟨rfl,hx⟩,by simp,by intro j u hu;match j,hu with|0,hu=>cases hu;exact h0⟩
 |1,hu=>cases hu;exact⟨_,⟨rfl,hy⟩,by simp,by intro j u hu;match j,hu with|0,hu=>cases hu;exact h1⟩
 |2,hu=>cases hu;exact⟨_,⟨rfl,hz⟩,by simp,by intro j u hu;match j,hu with|0,hu=>cases hu;exact h2⟩
theorem Fp(b:Nat)(x y z v:Int)(w:World)(h0:w.cell? ⟨b,0,none⟩=some (.int .i64 x))(h1:w.cell? ⟨b,1,none⟩=some (.int .i64 y))(h2:w.cell? ⟨b,2,none⟩=some (.int .i64 z))
 (hx:i64 x) (hy:i64 y) (hz:i64 z):
 Calls prog 107 #[.slice (some ⟨b,0,none⟩) 3 3,.int .i64 v] w fun e w'=>e=.returned (.bool (decide (v=x\/v=y\/v=z)))/\w=w':=
 (rD _ [x,y,z] 3 3 v w rfl (by omega) (sl3 h0 h1 h2 hx hy hz)).mono fun e w' ⟨he,hw⟩=>⟨by rw[he];exact wS (by simp),hw⟩
theorem vX(s:ByteArray)(lo hi st how tr:Int)(rv:Bool)(w:World):
 CB 153 #[.agg #[.string s,.int .i64 lo,.int .i64 hi,.int .i64 st,.int .i64 how,.int .i64 tr,.bool rv]] (.bool (fJ ⟨s,lo,hi,st,how,tr,rv⟩)) w:=by
 go_enter func153,ntmps153;go_wp2_with (go_at_call 107;refine(Fp _ 1 2 3 _ _ (by go_simp) (by go_simp) (by go_simp) (by simp[i64]) (by simp[i64]) (by simp[i64])).mono ?_;rintro e w' ⟨rfl,rfl⟩);all_goals go_ret
 all_goals refine⟨wS ?_,by first|exact((Below.refl _ _).alloc (Nat.le_refl _) _)|exact(((Below.refl _ _).alloc (Nat.le_refl _) _).alloc (by simp) _)⟩
 all_goals grind [fJ]
theorem kP{c:DF}(h:fJ c=true):(0<=c.lo/\c.lo<c.hi/\c.hi<=1000)/\1<=c.st/\(0<=c.tr/\c.tr<=127)/\(1<=c.how/\c.how<=3)/\(c.how≠2->c.tr=0)/\(c.hi-c.lo)%c.st=0:=by
 unfold fJ at h;have:=of_decide_eq_true h
 grind
def pz(c:DF)(m:Int):Int×Int:=if fJ c then(if Nv c m then((if c.rev then c.lo+c.hi-m else m),0)else(0,160))else(0,150)
theorem DJ(s:ByteArray)(lo hi st how tr:Int)(rv:Bool)(m:Int)(w:World):
 Calls prog 149 #[.agg #[.string s,.int .i64 lo,.int .i64 hi,.int .i64 st,.int .i64 how,.int .i64 tr,.bool rv],.int .i64 m] w fun e w'=>e=.returned (.tuple #[.int .i64 (pz ⟨s,lo,hi,st,how,tr,rv⟩ m).1,.int .i64 (pz ⟨s,lo,hi,st,how,tr,rv⟩ m).2])/\Below w.heap.size w w':=by
 cases hr:fJ ⟨s,lo,hi,st,how,tr,rv⟩with
 |false=>go_enter func149,ntmps149;go_wp2_with (go_at_call 153;refine(vX s lo hi st how tr rv _).mono ?_;rintro e w1 ⟨rfl,hb⟩);go_ret2;exact⟨by simp[pz,hr],((Below.refl _ _).alloc (Nat.le_refl _) _).trans (hb.mono (by simp))⟩
 |true=>
  obtain⟨⟨h1,h2,h3⟩,h4,-,-,-,-⟩:=kP hr;simp only at h1 h2 h3 h4;go_enter func149,ntmps149;go_wp2_with (go_at_call 153;refine(vX s lo hi st how tr rv _).mono ?_;rintro e w1 ⟨rfl,hb⟩;have hc:=hb.cell (p:=⟨w.heap.size,0,none⟩) (by simp);have hc1:=hb.cell (p:=⟨w.heap.size,1,none⟩) (by simp);have hc2:=hb.cell (p:=⟨w.heap.size,2,none⟩) (by simp);have hc3:=hb.cell (p:=⟨w.heap.size,3,none⟩) (by simp);have hc6:=hb.cell (p:=⟨w.heap.size,6,none⟩) (by simp));all_goals(try go_ret2)
  all_goals refine⟨aay ?_,((Below.refl _ _).alloc (Nat.le_refl _) _).trans (hb.mono (by simp))⟩
  all_goals grind [pz,Nv]
section
open Go.Shelf
attribute [local go_sem] Oper.semAt_some
def rX(c:bT):DF:=⟨c.1,c.2.1,c.2.2.1,c.2.2.2.1,c.2.2.2.2.1,c.2.2.2.2.2.1,c.2.2.2.2.2.2⟩
def oD(c:bT)(m:Int):Bool:=decide (m= -1)||Nv (rX c) m
def jc(c:bT)(p:Int)(l:List Int):Bool:=decide ((l.length:Int)=p)&&l.all (oD c)
def countB(x:bW)(n:Int):Bool:=decide (0<=n)&&decide (n<=x.2.2)
def dV(xs:List bW)(l:List Int):Bool:=decide (l.length=xs.length)&&(xs.zip l).all fun p=>countB p.1 p.2
def kS(r:aS)(i:Nat)(p:Int)(c:dS):Bool:=
 decide (c.marks.length=r.aT.length)&&dV r.bonus c.bonus&&dV r.malus c.malus&&decide (c.prev.length=i)&&((r.aT.zip c.marks).all fun q=>jc q.1 p q.2)&&c.prev.all dF
theorem DX(h:rC c)(ht:c.2.2.2.2.2.1<=127):fJ (rX c)=true:=by obtain⟨h1,h2,h3,h4,h5,h6,h7,h8,h9⟩:=h;unfold fJ rX;refine decide_eq_true ⟨h1,h2,h3,h4,h8,ht,h6,h7,fun e=>h9.resolve_right e,?_⟩;show(c.2.2.1-c.2.1)%c.2.2.2.1=0;rw[<-Int.tmod_eq_emod_of_nonneg (by omega)];exact h5
theorem oG{α β:Type}{xs:List α}{ys:List β}{x:α}{y:β}(hx:xs[k]?=some x)(hy:ys[k]?=some y):(xs.zip ys)[k]?=some (x,y):=by rw[List.getElem?_zip_eq_some];exact⟨hx,hy⟩
abbrev Qz(c:bT):Value:=.agg #[.string c.1,.int .i64 c.2.1,.int .i64 c.2.2.1,.int .i64 c.2.2.2.1,.int .i64 c.2.2.2.2.1,.int .i64 c.2.2.2.2.2.1,.bool c.2.2.2.2.2.2]
abbrev DY(c:bT):List Value:= [.string c.1,.int .i64 c.2.1,.int .i64 c.2.2.1,.int .i64 c.2.2.2.1,.int .i64 c.2.2.2.2.1,.int .i64 c.2.2.2.2.2.1,.bool c.2.2.2.2.2.2]
structure jE(w:World)(M:List Nat)(c:dS)(s1 s2 s3 s4:dK):Prop where
 marks:Sl (List Int) w M s1.A s1.n s1.c c.marks
 bonus:Sl Int w M s2.A s2.n s2.c c.bonus
 malus:Sl Int w M s3.A s3.n s3.c c.malus
 prev:Sl RatR w M s4.A s4.n s4.c c.prev
theorem jE.go{w w':World}{M:List Nat}{c:dS}{s1 s2 s3 s4:dK}(h:jE w M c s1 s2 s3 s4)(hb:Below w.heap.size w w'):jE w' M c s1 s2 s3 s4:=⟨h.marks.go hb,h.bonus.go hb,h.malus.go hb,h.prev.go hb⟩
abbrev dI(s1 s2 s3 s4:dK):List Value:= [.slice s1.A s1.n s1.c,.slice s2.A s2.n s2.c,.slice s3.A s3.n s3.c,.slice s4.A s4.n s4.c]
theorem Sl.tX{B:Option Addr}{m d:Nat}{bs:List (List Int)}{x:List Int}(h:Sl (List Int) w M B m d bs)(hk:bs[k]?=some x):
 ∃b o A n c,B=some ⟨b,o,none⟩/\w.cell? ⟨b,o+k,none⟩=some (.slice A n c)/\Sl Int w M A n c x:=by
 obtain⟨b,o,es,rfl,⟨A,n,c,rfl,h1⟩,h2⟩:=h.get hk;exact⟨b,o,A,n,c,rfl,by have:=h2.c0 rfl;rwa [show Rep.sz (List Int)=1 from rfl,Nat.mul_one]at this,h1⟩
def f_(r:aS)(i:Int)(c:dS):Prop:=Sound r/\∃(k:Nat) (x:aJ),i=(k:Int)/\r.rounds[k]?=some x/\kS r k x.2.1 c=true
theorem MN{r:aS}{x:aJ}(h:Dj r x)(hc:c∈r.aT):c.2.2.2.2.2.1<=127:=by have h1:=h.2.2.2.1 c hc;have h2:=h.1;rw[Int.tdiv_eq_ediv_of_nonneg (by omega)]at h1;omega
end
end Go.Proofs.YtefnknhjlejalaaGreatDoor
