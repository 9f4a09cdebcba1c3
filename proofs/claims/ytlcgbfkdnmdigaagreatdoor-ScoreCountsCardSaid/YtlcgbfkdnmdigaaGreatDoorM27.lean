/- Lemmas and walks; no statement is proved here. -/
import Derived.Test.YtlcgbfkdnmdigaaGreatDoorM21
set_option linter.unusedVariables false
set_option linter.unusedSimpArgs false
set_option maxRecDepth 20000
set_option maxHeartbeats 6000000
namespace Go.Proofs.YtlcgbfkdnmdigaaGreatDoor
theorem ad6{p:Prop}(h:p:=by
 have u3:=aF (b:=b) (hN.out.out b (by omega)) e1;have HA:=h_ r1 r5 FA NA;have yT:=Hd hwd;clear hx hes hrw e0 hN0 r1 r5 FA NA hwd hbl hn';gi_wp2;refine aP (bP v) 10 (by kernel_rfl) (by kernel_rfl) ?_;refine ay 0 ?_;refine ay 1 ?_;refine ay 2 ?_;refine ay 3 ?_;refine ay 4 ?_;refine ay 5 ?_;refine ay 6 ?_;refine ay 7 ?_;rw[yT.out];refine eU 8 fun K hK=>?_;gi_wp2;refine⟨Keeps.of_below (show Below wd.heap.size wd _ from(Below.refl _ _).alloc (Nat.le_refl _) _) _,?_⟩;refine lit ?_;refine oQ 9 [] (by kernel_rfl) (dN (by decide) rfl ?_ (fun K hK=>?_) gU);·exact wy
 refine aI _ _ _ rfl rfl rfl HA.out.1 (hK _ _ ⟨HA.out.2.1,?_⟩);clear hK K;refine lit ?_;have hfo:=HA.out.2.2.1;refine op1 hfo ?_;intros;clear hfo;refine iq 2 ?_;refine jW fun K hK K' hK'=>?_;gi_wp2;refine jW fun K hK K' hK'=>?_;gi_wp2;refine tail_nil _ ?_;simp only[cu];gi_wp2;exact⟨⟨k+1,_,by omega,by go_num,HA.out.2.2.2⟩,by simp[intOf];omega⟩):p:=h
theorem aeK{p:Prop}(h:p:=by simp only[List.length_append,List.length_map,List.length_take,List.length_nil];have:=HL.out;omega):p:=h
theorem afB{p:Prop}(h:p:=by subst e;simp only[List.mem_cons,Prod.mk.injEq,List.not_mem_nil,or_false]at hm;omega):p:=h
theorem afC{p:Prop}(h:p:=by refine⟨by omega,fun b vs hm e=>?_⟩;subst e;simp only[List.cons_append,List.nil_append,List.mem_cons,Prod.mk.injEq,List.not_mem_nil,or_false]at hm;omega):p:=h
variable {M:List Nat}{cs:List Value}{L:List (Nat×List Value)}{b j c k s n0 i id f:Nat}{A:Option Addr}{zs:List ByteArray}{w':World}{o oi:Oper}{u:Value}{a a':Act}{listed:Array Bool}
section
open Go.RowKit Go.Shelf
theorem aaF{α:Type} [kE α] {w:World}(hM:b_ M w)(e:TypeId){x:α}(h:Rep.rd w M x cs):Sl α (w.alloc (.cells cs.toArray e)) M (some ⟨w.heap.size,0,none⟩) 1 1 [x]:=by
 have hb:Below w.heap.size w (w.alloc (.cells cs.toArray e)):=by exact bel
 refine⟨rfl,Nat.le_refl _,by unfold jG;omega,by omega,.inr ⟨w.heap.size,0,rfl,fun k y hk=>?_⟩⟩
 match k,hk with
 |0,hk=>cases hk;refine⟨cs,Rep.keep h (Keeps.of_below hb M),fun hm=>by have:=hM _ hm;omega,fun j u hu=>?_⟩;have hn:=heap_alloc_new w (.cells cs.toArray e);generalize w.alloc (.cells cs.toArray e)=W2 at hn |-;generalize w.heap.size=q at hn |-;simp[World.cell?,hn,hu]
theorem bD.app1{α:Type} [kJ α] {t e:TypeId}{w:World}{base:Nat}{v:Value}{n:Nat}{xs:List α}{x:α}(h:bD α e w M base v n xs)(ht:Tryz.prog.underlying t=some (.slice e))(hi:iU e (Rep.sz α))(hb:base<=w.heap.size)(hM:b_ M w)
 (hx:Rep.rd w (bP v++M) x cs) (hn:n<=100000):
 ∃v' w',(Builtin.append_ #[t,t] t #[v,.slice (some ⟨w.heap.size,0,none⟩) 1 1]).run Tryz.prog (w.alloc (.cells cs.toArray e))=.ok v' w'/\bD α e w' M base v' (n+1) (xs++ [x])/\w.grownBy w' v.ownBlock/\(v'.ownBlock=v.ownBlock\/v'.ownBlock=some (w.heap.size+1))/\Keeps (bP v) (w.alloc (.cells cs.toArray e)) w':=by
 obtain⟨i,z,i1,i2,i3,i4,i5⟩:=hi;have hMo:b_ (bP v++M) w:=fun q hq=>by
  rcases List.mem_append.1 hq with hq|hq;·exact(h.lt (bJ.1 hq)).2
  exact hM q hq
 have hbl:Below w.heap.size w (w.alloc (.cells cs.toArray e)):=by exact bel
 have hnb:(n+1)*i.bytes<=140737488355328:=Nat.le_trans (Nat.mul_le_mul (show n+1<=100001 by omega) i5) (by decide);obtain⟨v',w',r1,r2,r3,r4⟩:=(h.go hbl).uy (ty:=t) (t:=t) (by simp;omega) ht i1 i2 i3 i4 (aaF hMo e hx) hnb (by omega);refine⟨v',w',r1,r2,?_,by simpa using r4,r3.size,fun k hk hm=>r3.block k hk (fun e=>hm (bJ.2 e.symm))⟩;exact⟨r3.os.trans hbl.os,r3.tape.trans hbl.tape,r3.output.trans hbl.output,Nat.le_trans hbl.size r3.size,fun k hk hne=>(r3.block k (Nat.lt_of_lt_of_le hk hbl.size) hne).trans (hbl.block k hk)⟩
theorem Fr.qY{w W:World}{C:List Value}{u0:Value}(h:Fr w W (L++ [(b,C)]))(hL:∀c vs,(c,vs)∈L->c≠b)(hj:C[j]?=some u0)(u:Value):Fr w (W.setCell ⟨b,j,none⟩ u) (L++ [(b,C.set j u)]):=by
 have hm:(b,C)∈L++ [(b,C)]:=by simp
 have hge:=h.ge b C hm;obtain⟨x,k⟩:=uD (fun i v hv=>h.at_ b C hm i v hv) hj u;have h1:=(h.only (L':=L) (fun x hx=>List.mem_append_left _ hx)).kb k hge hL;refine⟨h1.bl,fun c vs hc=>?_,fun c vs hc=>?_,fun c vs hc=>?_⟩<;>rcases List.mem_append.1 hc with hc|hc
 ·exact h1.at_ c vs hc
 ·simp only[List.mem_singleton,Prod.mk.injEq]at hc;obtain⟨rfl,rfl⟩:=hc;exact x
 ·exact h1.lt c vs hc
 ·simp only[List.mem_singleton,Prod.mk.injEq]at hc;obtain⟨rfl,rfl⟩:=hc;exact Nat.lt_of_lt_of_le (h.lt _ _ hm) k.k.size
 ·exact h1.ge c vs hc
 simp only[List.mem_singleton,Prod.mk.injEq]at hc;obtain⟨rfl,rfl⟩:=hc;exact hge
theorem Fr.ZI{w W W':World}{row:Option Nat}(h:Fr w W L)(hg:W.grownBy W' row)(hr:∀k,row=some k->w.heap.size<=k/\∀b vs,(b,vs)∈L->b≠k):Fr w W' L:=⟨h.bl.grown hg h.bl.size (fun k hk=>(hr k hk).1),fun b vs hm i u hu=>by have hl:=h.lt b vs hm;have hb:=hg.block b hl (fun e=>(hr b e.symm).2 b vs hm rfl);have:=h.at_ b vs hm i u hu;exact⟨by rw[<-this.1];simp only[World.cell?,hb],by rw[<-this.2];simp only[World.frozen?,hb]⟩,fun b vs hm=>Nat.lt_of_lt_of_le (h.lt b vs hm) hg.size,h.ge⟩
def P_(zs:List ByteArray)(x:ByteArray)(i:Int):Prop:=(i= -1/\∀(j:Nat) (y:ByteArray),zs[j]?=some y->¬x=y)\/∃k:Nat,i=(k:Int)/\zs[k]?=some x/\∀(j:Nat) (y:ByteArray),j<k->zs[j]?=some y->¬x=y
theorem Sl.text{w:World}{n:Nat}{y:ByteArray}(h:Sl ByteArray w M A n c zs)(hk:zs[k]?=some y):∃b o,A=some ⟨b,o,none⟩/\w.cell? ⟨b,o+k,none⟩=some (.string y):=by obtain⟨b,o,es,rfl,h1,h2⟩:=h.get hk;have h3:es=_:=h1;subst h3;have h4:=h2.2 0 _ rfl;rw[show Rep.sz ByteArray=1 from rfl,Nat.mul_one]at h4;exact⟨b,o,rfl,h4⟩
theorem ru{n:Nat}(x:ByteArray){w:World}(hs:Sl ByteArray w M A n c zs):
 Calls Tryz.prog 100 #[.slice A n c,.string x] w fun e w'=>(∃i:Int,e=.returned (.int .i64 i)/\P_ zs x i)/\w=w':=by
 refine wid ?_;have hz:=hs.len;have hbig:=hs.small;have H:=Hd hs;clear hs;refine ent Tryz.func100 rfl Tryz.ntmps100 ?_;gi_wp2;gi_loopw[5] (fun i wr=>∃k:Nat,k<=n/\i=.int .i64 k/\w=wr/\Hid (∀(j:Nat) (y:ByteArray),j<k->zs[j]?=some y->¬x=y)) (fun i _=>n-(intOf i).toNat);case atStart=>exact⟨0,Nat.zero_le _,rfl,rfl,Hd (fun j y hj=>by omega)⟩
 case round=>
  obtain⟨k,hk,rfl,rfl,hr⟩:=hrel;by_cases hlt:k<n
  ·obtain⟨y,hy⟩:=dW zs k (by omega);obtain⟨b,o,rfl,h0⟩:=H.out.text hy;by_cases he:x=y;·subst he;have HR:=Hd (show P_ zs x k from .inr ⟨k,rfl,hy,hr.out⟩);clear hy;gi_wp2;go_ret;exact⟨⟨_,rfl,HR.out⟩,rfl⟩
   have hne:=str_eq (fun h=>he h.symm);have hr2:=Hd (show ∀(j:Nat) (z:ByteArray),j<k+1->zs[j]?=some z->¬x=z from fun j z hj hz2=>by exact af_);clear hy he;gi_wp2;exact afj
  ·have HR:=Hd (show P_ zs x (-1)from .inl ⟨rfl,fun j y hj=>hr.out j y (by have:=(List.getElem?_eq_some_iff.1 hj).1;omega) hj⟩);have hkn:k=n:=by omega
   subst hkn;clear hlt hk;gi_wp2;go_ret;exact⟨⟨_,rfl,HR.out⟩,rfl⟩
end
def dO:List ByteArray->ByteArray->Int
 | [],_=> -1
 |y::l,s=>if y=s then 0 else if dO l s<0 then-1 else dO l s+1
theorem lV:∀{l:List ByteArray}{s:ByteArray}{i:Int},P_ l s i->i=dO l s
 | [],s,i,h=>by
   rcases h with⟨h,-⟩|⟨k,-,h,-⟩;·exact h
   simp at h
 |y::l,s,i,h=>by
  unfold dO;by_cases e:y=s
  ·rw[if_pos e];rcases h with⟨-,h⟩|⟨k,h,hk,hj⟩;·exact absurd e.symm (h 0 y rfl)
   cases k with
   |zero=>simpa using h
   |succ k=>exact absurd e.symm (hj 0 y (by omega) rfl)
  rw[if_neg e];rcases h with⟨h,h2⟩|⟨k,h,hk,hj⟩;·have:=lV (l:=l) (s:=s) (i:= -1) (.inl ⟨rfl,fun j z hz=>h2 (j+1) z (by simpa using hz)⟩);rw[<-this];simpa using h
  cases k with
  |zero=>simp at hk;exact absurd hk e
  |succ k=>have:=lV (l:=l) (s:=s) (i:=(k:Int)) (.inr ⟨k,rfl,by simpa using hk,fun j z hjk hz=>hj (j+1) z (by omega) (by simpa using hz)⟩);rw[<-this,if_neg (by omega)];omega
theorem oW:∀(l:List ByteArray) (s:ByteArray),-1<=dO l s/\dO l s<l.length
 | [],_=>by unfold dO;simp
 |y::l,s=>by
  have:=oW l s;unfold dO;rw[List.length_cons];split;·omega
  split<;>omega
theorem I8:∀{l:List ByteArray}{s:ByteArray}{k:Nat},dO l s=(k:Int)->l[k]?=some s
 | [],s,k,h=>by unfold dO at h;omega
 |y::l,s,k,h=>by
  unfold dO at h;by_cases e:y=s
  ·rw[if_pos e]at h;obtain rfl:k=0:=by omega
   simp[e]
  rw[if_neg e]at h;split at h;·omega
  obtain⟨j,rfl⟩:∃j,k=j+1:=⟨k-1,by omega⟩;simpa using I8 (l:=l) (s:=s) (k:=j) (by omega)
theorem Qa{nm:List ByteArray}{s:ByteArray}:∀{k j:Nat},dX nm k=true->j<k->k<=nm.length->nm[j]?=some s->gW nm s k=some j
 |0,j,_,h,_,_=>by omega
 |k+1,j,ho,h,hl,hj=>by
  unfold dX at ho;rw[Bool.and_eq_true]at ho;unfold gW;by_cases e:j=k;·subst e;rw[if_pos (by rw[List.getD_eq_getElem?_getD,hj];rfl)]
  have ih:=Qa ho.1 (show j<k by omega) (by omega) hj;rw[if_neg];·exact ih
  intro g;have g2:nm.getD k ByteArray.empty=s:=by apply ByteArray.ext;apply Array.toList_inj.1;exact g
  have h2:=ho.2;rw[g2,ih]at h2;cases h2
theorem qB{nm:List ByteArray}{s:ByteArray}(ho:dX nm nm.length=true)(h:0<=dO nm s):lU nm s (dO nm s):=by obtain⟨k,hk⟩:∃k:Nat,dO nm s=(k:Int):=⟨(dO nm s).toNat,by omega⟩;have hj:=I8 hk;have:=Qa ho (List.getElem?_eq_some_iff.1 hj).1 (Nat.le_refl _) hj;rw[hk];exact⟨by unfold xB;rw[this];rfl,by unfold xA;rw[this];rfl⟩
theorem Qb{nm:List ByteArray}(h:∀(k:Nat) (s:ByteArray),nm[k]?=some s->dO nm s=(k:Int)):∀k,k<=nm.length->dX nm k=true
 |0,_=>rfl
 |k+1,hk=>by
  unfold dX;rw[Qb h k (by omega),Bool.true_and];obtain⟨s,hs⟩:=dW nm k (by omega);have e1:nm.getD k ByteArray.empty=s:=by rw[List.getD_eq_getElem?_getD,hs];rfl
  rw[e1]
  cases e:gW nm s k with
  |none=>rfl
  |some j=>
   exfalso;have key:∀m,gW nm s m=some j->nm.getD j ByteArray.empty=s/\j<m:=by
    intro m
    induction m with
    |zero=>intro g;cases g
    |succ m ih=>
     intro g;unfold gW at g;split at g;·rename_i g2;cases g;exact⟨by apply ByteArray.ext;apply Array.toList_inj.1;exact g2,Nat.lt_succ_self _⟩
     ·have:=ih g;exact⟨this.1,by omega⟩
   obtain⟨g1,g2⟩:=key k e;have h1:=h k s hs;have h2:=h j s (by rw[<-g1,List.getD_eq_getElem?_getD,List.getElem?_eq_getElem (by omega)];rfl);omega
mutual
def fH(cn rn:List ByteArray):aU->aU
 | .mk k s n d l=>.mk k s (if k=2 then dO cn s else if k=5 then dO rn s else n) d (Ae cn rn l)
def Ae(cn rn:List ByteArray):List aU->List aU
 | []=> []
 |x::l=>fH cn rn x::Ae cn rn l
end
mutual
def okR(cn rn:List ByteArray):aU->Bool
 | .mk k s _ _ l=>(if k=2 then decide (0<=dO cn s)else if k=5 then decide (0<=dO rn s)else true)&&UZ cn rn l
def UZ(cn rn:List ByteArray):List aU->Bool
 | []=>true
 |x::l=>okR cn rn x&&UZ cn rn l
end
theorem BG(cn rn:List ByteArray)(x:aU):fH cn rn x=.mk x.kind x.name (if x.kind=2 then dO cn x.name else if x.kind=5 then dO rn x.name else x.n) x.d (Ae cn rn x.l):=by cases x;rw[fH];rfl
theorem I9(cn rn:List ByteArray)(x:aU):okR cn rn x=((if x.kind=2 then decide (0<=dO cn x.name)else if x.kind=5 then decide (0<=dO rn x.name)else true)&&UZ cn rn x.l):=by cases x;rw[okR];rfl
theorem mg(cn rn:List ByteArray):∀l,Ae cn rn l=l.map (fH cn rn)
 | []=>rfl
 |x::l=>by rw[Ae,mg cn rn l];rfl
theorem qC(cn rn:List ByteArray):∀l,UZ cn rn l=l.all (okR cn rn)
 | []=>rfl
 |x::l=>by rw[UZ,qC cn rn l];rfl
def iW(cn rn tn:List ByteArray)(k:bK):bK:=if k.1=1 then(k.1,k.2.1,dO cn k.2.1)else if k.1=2 then(k.1,k.2.1,dO rn k.2.1)else if k.1=5 then(k.1,k.2.1,dO tn k.2.1)else k
def I_(cn rn tn:List ByteArray)(k:bK):Bool:=if k.1=1 then decide (0<=dO cn k.2.1)else if k.1=2 then decide (0<=dO rn k.2.1)else if k.1=5 then decide (0<=dO tn k.2.1)else true
section
open Go.RowKit Go.Shelf
attribute [local go_sem] Oper.semAt_some
theorem U2:(Tryz.prog.info? 9).map (fun i=>(i.zero,i.size,i.bytes))=some (some (.string ⟨#[]⟩),1,16):=by kernel_rfl
theorem Rj:iU 9 (Rep.sz ByteArray):=iU.mk' U2 rfl (by omega)
structure zS(w W wr:World)(R C:List Value)(v:Value)(l:List ByteArray):Prop where
 fr:Fr w wr ([(w.heap.size,R),(w.heap.size+1, [.slice none 0 0,.slice none 0 0,.slice none 0 0,.slice none 0 0])]++ [(w.heap.size+1+1,C)])
 own:bD ByteArray 9 wr [w.heap.size+1+1,w.heap.size+1] W.heap.size v l.length l
 kp:Keeps [w.heap.size+1+1] W wr
 hW:w.heap.size+3<=W.heap.size
section
variable {w W wr wz:World}{R C:List Value}{v:Value}{l:List ByteArray}
theorem zS.drew(h:zS w W wr R C v l):zS w W wr.drew R C v l:=⟨h.fr.drew,h.own.go (Below.refl _ _).drew,h.kp.drew,h.hW⟩
theorem zS.start(h:Fr w wr ([(w.heap.size,R),(w.heap.size+1, [.slice none 0 0,.slice none 0 0,.slice none 0 0,.slice none 0 0])]++ [(w.heap.size+1+1,C)])):zS w wr wr R C (.slice none 0 0) []:=⟨h,bD.nil _ _ _,Keeps.refl _ _,h.lt (w.heap.size+1+1) C (by simp)⟩
theorem zS.out(h:zS w W wr R C v l):∀b,b<=w.heap.size+1+1->b∉bP v:=fun b hb hm=>by have:=(h.own.lt (bJ.1 hm)).1;have:=h.hW;omega
theorem zS.sl(h:zS w W wr R C v l)(hn:l.length<=100000):∃A c,v=.slice A l.length c/\Sl ByteArray wr [w.heap.size+1+1,w.heap.size+1] A l.length c l:=h.own.sl (by omega) (fun k hk=>by have:=h.hW;simp only[List.mem_cons,List.not_mem_nil,or_false]at hk;omega)
theorem zS.step(h:zS w W wr R C v l)(x:ByteArray){j:Nat}{u0:Value}(hj:C[j]?=some u0)(hl:l.length<=100000):
 ∃v' wA,(Builtin.append_ #[139,139] 139 #[v,.slice (some ⟨wr.heap.size,0,none⟩) 1 1]).run Tryz.prog (wr.alloc (.cells #[.string x] 9))=.ok v' wA/\Keeps (bP v) (wr.alloc (.cells #[.string x] 9)) wA/\Fr w wA ([(w.heap.size,R),(w.heap.size+1, [.slice none 0 0,.slice none 0 0,.slice none 0 0,.slice none 0 0])]++ [(w.heap.size+1+1,C)])/\zS w W (wA.setCell ⟨w.heap.size+1+1,j,none⟩ v') R (C.set j v') v' (l++ [x]):=by
 have hlb:=h.fr.lt (w.heap.size+1+1) C (by simp);obtain⟨v',wA,r1,r2,r3,r4,r5⟩:=h.own.app1 (x:=x) (cs:= [.string x]) Tryz.underlying139 Rj h.kp.size (fun q hq=>by simp only[List.mem_cons,List.not_mem_nil,or_false]at hq;omega) rfl hl;have hF:=h.fr.ZI r3 (fun k hk=>by have h1:=(h.own.lt hk).1;have h2:=h.hW;exact afC);refine⟨v',wA,r1,r5,hF,⟨hF.qY (fun c vs hm e=>by exact afB) hj v',?_,(h.kp.grown r3 (fun k hk=>.inr (h.own.lt hk).1)).setCell (p:=⟨_,j,none⟩) (.inl (by simp)) v',h.hW⟩⟩;have hlen:(l++ [x]).length=l.length+1:=by simp
 rw[hlen];exact r2.apart ((Keeps.refl [w.heap.size+1+1] wA).setCell (p:=⟨w.heap.size+1+1,j,none⟩) (.inl (by simp)) v') (fun q hq=>by rw[List.mem_singleton]at hq;subst hq;exact List.mem_cons_self) (fun q hq e=>by
  rw[List.mem_singleton]at hq;subst hq;have h2:=h.hW;rcases r4 with r4|r4;·rw[r4]at e;have h1:=(h.own.lt e).1;omega
  rw[r4]at e;have:=Option.some.inj e;omega)
end
structure JO(w:World)(M:List Nat)(r:aS)(s0 s1 s2 s3:dK):Prop where
 c:Sl ByteArray w M s0.A s0.n s0.c (dP r)
 i:Sl ByteArray w M s1.A s1.n s1.c (UG r)
 t:Sl ByteArray w M s2.A s2.n s2.c (jF r)
 r:Sl ByteArray w M s3.A s3.n s3.c (dQ r)
theorem qE{α:Type}{l:List α}{f:α->ByteArray}{x:α}(pre:List ByteArray)(h:l[k]?=some x):pre++(l.map f).take k++ [f x]=pre++(l.map f).take (k+1):=by rw[List.take_add_one,List.getElem?_map,h,List.append_assoc];rfl
set_option maxHeartbeats 8000000 in
theorem Rk{r:aS}{s1 s2 s3 s4 s5 s6 s7:dK}{w:World}(hr:dG w M r s1 s2 s3 s4 s5 s6 s7)(hlen:s1.n<=1000/\s2.n<=1000/\s3.n<=1000/\s4.n<=1000/\s5.n<=1000):
 Calls Tryz.prog 98 #[.agg (aV r s1 s2 s3 s4 s5 s6 s7).toArray] w fun e w'=>∃t0 t1 t2 t3:dK,e=.returned (.agg #[.slice t0.A t0.n t0.c,.slice t1.A t1.n t1.c,.slice t2.A t2.n t2.c,.slice t3.A t3.n t3.c])/\JO w' [] r t0 t1 t2 t3/\Below w.heap.size w w':=by
 refine wid ?_;obtain⟨A1,q1,c1⟩:=s1;obtain⟨A2,q2,c2⟩:=s2;obtain⟨A3,q3,c3⟩:=s3;obtain⟨A4,q4,c4⟩:=s4;obtain⟨A5,q5,c5⟩:=s5;have h1:Sl bT w M A1 q1 c1 r.aT:=hr.aT;have n1:=h1.len;have h2:Sl bW w M A2 q2 c2 r.bonus:=hr.bonus;have n2:=h2.len;have h3:Sl bW w M A3 q3 c3 r.malus:=hr.malus;have n3:=h3.len;have h4:Sl dA w M A4 q4 c4 r.ties:=hr.ties;have n4:=h4.len;have h5:Sl aJ w M A5 q5 c5 r.rounds:=hr.rounds;have n5:=h5.len;obtain⟨b1,b2,b3,b4,b5⟩:=hlen;have H:=oK h1 h2 h3 h4 h5;have HL:=oK n1 n2 n3 n4 n5;obtain⟨W1,hW1,F1⟩:=dR (((Fr.nil w).a w.heap.size (aV r ⟨A1,q1,c1⟩ ⟨A2,q2,c2⟩ ⟨A3,q3,c3⟩ ⟨A4,q4,c4⟩ ⟨A5,q5,c5⟩ s6 s7) 28).a (w.heap.size+1) [.slice none 0 0,.slice none 0 0,.slice none 0 0,.slice none 0 0] 140);obtain⟨W2,hW2,hbW2,F2⟩:=fP (w:=W1) (F1.a (w.heap.size+1+1) [.slice none 0 0,.slice none 0 0,.slice none 0 0,.slice none 0 0] 140 (by rw[<-hW1];simp));have N0:=Hd (zS.start F2);have z1:W1.heap.size=w.heap.size+1+1:=by rw[<-hW1];simp
 refine op1 F2 ?_;intros;clear h1 h2 h3 h4 h5 n1 n2 n3 n4 n5 hr F1 F2 hbW2;refine ent Tryz.func98 rfl Tryz.ntmps98 ?_;gi_wp2;gi_loopw[4] (fun i wr=>∃(k:Nat) (v:Value),k<=q1/\i=.int .i64 k/\Hid (zS w W2 wr (aV r ⟨A1,q1,c1⟩ ⟨A2,q2,c2⟩ ⟨A3,q3,c3⟩ ⟨A4,q4,c4⟩ ⟨A5,q5,c5⟩ s6 s7) [v,.slice none 0 0,.slice none 0 0,.slice none 0 0] v ([]++(r.aT.map (fun x=>x.1)).take k))) (fun i _=>q1-(intOf i).toNat);case atStart=>exact⟨0,_,Nat.zero_le _,rfl,N0⟩
 case round=>
  obtain⟨k,v,hk,rfl,hN⟩:=hrel;have hfo:=hN.out.fr;refine op1 hfo ?_;intros;clear hfo;by_cases hlt:k<q1;·obtain⟨x,hx⟩:=dW r.aT k (by rw[HL.out.1];exact hlt);obtain⟨b,o,es,rfl,hes,hrw⟩:=H.out.1.get hx;obtain⟨rfl,-⟩:=lT hes;have e0:w.cell? ⟨b,o+k*7,none⟩=some (.string x.1):=hrw.2 0 _ rfl;have hbl:b<w.heap.size:=World.block_lt_of_cell? w _ e0;have e1:=(Keeps.of_below hN.out.fr.bl []).cell (by simp) e0;have hN0:=hN.out.drew;obtain⟨wd,hwd⟩:=aC wr.drew;rw[hwd]at hN0;obtain⟨v',wA,r1,r5,FA,NA⟩:=hN0.step x.1 (j:=0) (u0:=v) rfl (by exact aeK);rw[qE [] hx]at NA;obtain⟨A',c',hv'⟩:=NA.own.shape;obtain⟨n',hn'⟩:=aC (List.length ([]++(r.aT.map (fun x=>x.1)).take (k+1)));rw[hn']at hv';subst hv';have u1:=aF (b:=w.heap.size+1+1) (hN.out.out _ (by omega)) (hN.out.fr.aQ 2 0);have u2:=aF (b:=w.heap.size) (hN.out.out _ (by omega)) (hN.out.fr.aQ 0 1);exact ad6
  ·obtain rfl:q1=k:=by omega
   clear hk hlt;have hX:zS w W2 wr (aV r ⟨A1,q1,c1⟩ ⟨A2,q2,c2⟩ ⟨A3,q3,c3⟩ ⟨A4,q4,c4⟩ ⟨A5,q5,c5⟩ s6 s7) [v,.slice none 0 0,.slice none 0 0,.slice none 0 0] v (dP r):=by have h:=hN.out;rw[List.nil_append,List.take_of_length_le (by rw[List.length_map,HL.out.1];exact Nat.le_refl _)]at h;exact h
   obtain⟨D0,d0,rfl,hsl⟩:=hX.sl (by rw[List.length_map,HL.out.1];omega);obtain⟨m0,hm0⟩:=aC (List.length (dP r));have NV:=hX.fr;rw[hm0]at hsl NV;have G0:=Hd hsl;have N1:=Hd (zS.start NV);clear hX NV hsl hN;obtain⟨V1,rfl⟩:∃V,V=wr:=⟨_,rfl⟩;gi_wp2;gi_loopw[5] (fun i wr=>∃(k:Nat) (v:Value),k<=q2/\i=.int .i64 k/\Hid (zS w V1 wr (aV r ⟨A1,q1,c1⟩ ⟨A2,q2,c2⟩ ⟨A3,q3,c3⟩ ⟨A4,q4,c4⟩ ⟨A5,q5,c5⟩ s6 s7) [.slice D0 m0 d0,v,.slice none 0 0,.slice none 0 0] v ([]++(r.bonus.map (fun x=>x.1)).take k))) (fun i _=>q2-(intOf i).toNat);case atStart=>exact⟨0,_,Nat.zero_le _,rfl,N1⟩
   case round=>
    obtain⟨k,v,hk,rfl,hN⟩:=hrel;have hfo:=hN.out.fr;refine op1 hfo ?_;intros;clear hfo;by_cases hlt:k<q2;·obtain⟨x,hx⟩:=dW r.bonus k (by rw[HL.out.2.1];exact hlt);obtain⟨b,o,es,rfl,hes,hrw⟩:=H.out.2.1.get hx;obtain⟨rfl,-⟩:=oU hes;have e0:w.cell? ⟨b,o+k*3,none⟩=some (.string x.1):=hrw.2 0 _ rfl;have hbl:b<w.heap.size:=World.block_lt_of_cell? w _ e0;have e1:=(Keeps.of_below hN.out.fr.bl []).cell (by simp) e0;have hN0:=hN.out.drew;obtain⟨wd,hwd⟩:=aC wr.drew;rw[hwd]at hN0;obtain⟨v',wA,r1,r5,FA,NA⟩:=hN0.step x.1 (j:=1) (u0:=v) rfl (by exact aeK);rw[qE [] hx]at NA;obtain⟨A',c',hv'⟩:=NA.own.shape;obtain⟨n',hn'⟩:=aC (List.length ([]++(r.bonus.map (fun x=>x.1)).take (k+1)));rw[hn']at hv';subst hv';have u1:=aF (b:=w.heap.size+1+1) (hN.out.out _ (by omega)) (hN.out.fr.aQ 2 1);have u2:=aF (b:=w.heap.size) (hN.out.out _ (by omega)) (hN.out.fr.aQ 0 2);exact ad6
    ·obtain rfl:q2=k:=by omega
     clear hk hlt;have N2:=Hd (show zS w V1 wr (aV r ⟨A1,q1,c1⟩ ⟨A2,q2,c2⟩ ⟨A3,q3,c3⟩ ⟨A4,q4,c4⟩ ⟨A5,q5,c5⟩ s6 s7) [.slice D0 m0 d0,v,.slice none 0 0,.slice none 0 0] v (r.bonus.map (fun x=>x.1)++(r.malus.map (fun x=>x.1)).take 0)from by have h:=hN.out;rw[List.nil_append,List.take_of_length_le (by rw[List.length_map,HL.out.2.1];exact Nat.le_refl _)]at h;rw[List.take_zero,List.append_nil];exact h);clear hN;gi_wp2;gi_loopw[6] (fun i wr=>∃(k:Nat) (v:Value),k<=q3/\i=.int .i64 k/\Hid (zS w V1 wr (aV r ⟨A1,q1,c1⟩ ⟨A2,q2,c2⟩ ⟨A3,q3,c3⟩ ⟨A4,q4,c4⟩ ⟨A5,q5,c5⟩ s6 s7) [.slice D0 m0 d0,v,.slice none 0 0,.slice none 0 0] v ((r.bonus.map (fun x=>x.1))++(r.malus.map (fun x=>x.1)).take k))) (fun i _=>q3-(intOf i).toNat);case atStart=>exact⟨0,_,Nat.zero_le _,rfl,N2⟩
     case round=>
      obtain⟨k,v,hk,rfl,hN⟩:=hrel;have hfo:=hN.out.fr;refine op1 hfo ?_;intros;clear hfo;by_cases hlt:k<q3;·obtain⟨x,hx⟩:=dW r.malus k (by rw[HL.out.2.2.1];exact hlt);obtain⟨b,o,es,rfl,hes,hrw⟩:=H.out.2.2.1.get hx;obtain⟨rfl,-⟩:=oU hes;have e0:w.cell? ⟨b,o+k*3,none⟩=some (.string x.1):=hrw.2 0 _ rfl;have hbl:b<w.heap.size:=World.block_lt_of_cell? w _ e0;have e1:=(Keeps.of_below hN.out.fr.bl []).cell (by simp) e0;have hN0:=hN.out.drew;obtain⟨wd,hwd⟩:=aC wr.drew;rw[hwd]at hN0;obtain⟨v',wA,r1,r5,FA,NA⟩:=hN0.step x.1 (j:=1) (u0:=v) rfl (by exact aeK);rw[qE (r.bonus.map (fun x=>x.1)) hx]at NA;obtain⟨A',c',hv'⟩:=NA.own.shape;obtain⟨n',hn'⟩:=aC (List.length ((r.bonus.map (fun x=>x.1))++(r.malus.map (fun x=>x.1)).take (k+1)));rw[hn']at hv';subst hv';have u1:=aF (b:=w.heap.size+1+1) (hN.out.out _ (by omega)) (hN.out.fr.aQ 2 1);have u2:=aF (b:=w.heap.size) (hN.out.out _ (by omega)) (hN.out.fr.aQ 0 3);exact ad6
      ·obtain rfl:q3=k:=by omega
       clear hk hlt;have hX:zS w V1 wr (aV r ⟨A1,q1,c1⟩ ⟨A2,q2,c2⟩ ⟨A3,q3,c3⟩ ⟨A4,q4,c4⟩ ⟨A5,q5,c5⟩ s6 s7) [.slice D0 m0 d0,v,.slice none 0 0,.slice none 0 0] v (UG r):=by have h:=hN.out;rw[List.take_of_length_le (by rw[List.length_map,HL.out.2.2.1];exact Nat.le_refl _)]at h;rw[<-List.map_append]at h;exact h
       obtain⟨D1,d1,rfl,hsl⟩:=hX.sl (by rw[List.length_map,List.length_append,HL.out.2.1,HL.out.2.2.1];omega);obtain⟨m1,hm1⟩:=aC (List.length (UG r));have NV:=hX.fr;rw[hm1]at hsl NV;have G1:=Hd hsl;have N3:=Hd (zS.start NV);have G0:=Hd (G0.out.keep (hX.kp.mono (fun q hq=>by rw[List.mem_singleton]at hq;subst hq;exact List.mem_cons_self)));clear hX NV hsl hN;obtain⟨V3,rfl⟩:∃V,V=wr:=⟨_,rfl⟩;gi_wp2;gi_loopw[7] (fun i wr=>∃(k:Nat) (v:Value),k<=q4/\i=.int .i64 k/\Hid (zS w V3 wr (aV r ⟨A1,q1,c1⟩ ⟨A2,q2,c2⟩ ⟨A3,q3,c3⟩ ⟨A4,q4,c4⟩ ⟨A5,q5,c5⟩ s6 s7) [.slice D0 m0 d0,.slice D1 m1 d1,v,.slice none 0 0] v ([]++(r.ties.map (fun x=>x.1)).take k))) (fun i _=>q4-(intOf i).toNat);case atStart=>exact⟨0,_,Nat.zero_le _,rfl,N3⟩
       case round=>
        obtain⟨k,v,hk,rfl,hN⟩:=hrel;have hfo:=hN.out.fr;refine op1 hfo ?_;intros;clear hfo;by_cases hlt:k<q4;·obtain⟨x,hx⟩:=dW r.ties k (by rw[HL.out.2.2.2.1];exact hlt);obtain⟨b,o,es,rfl,hes,hrw⟩:=H.out.2.2.2.1.get hx;obtain⟨_,_,_,rfl,-⟩:=vJ hes;have e0:w.cell? ⟨b,o+k*2,none⟩=some (.string x.1):=hrw.2 0 _ rfl;have hbl:b<w.heap.size:=World.block_lt_of_cell? w _ e0;have e1:=(Keeps.of_below hN.out.fr.bl []).cell (by simp) e0;have hN0:=hN.out.drew;obtain⟨wd,hwd⟩:=aC wr.drew;rw[hwd]at hN0;obtain⟨v',wA,r1,r5,FA,NA⟩:=hN0.step x.1 (j:=2) (u0:=v) rfl (by exact aeK);rw[qE [] hx]at NA;obtain⟨A',c',hv'⟩:=NA.own.shape;obtain⟨n',hn'⟩:=aC (List.length ([]++(r.ties.map (fun x=>x.1)).take (k+1)));rw[hn']at hv';subst hv';have u1:=aF (b:=w.heap.size+1+1) (hN.out.out _ (by omega)) (hN.out.fr.aQ 2 2);have u2:=aF (b:=w.heap.size) (hN.out.out _ (by omega)) (hN.out.fr.aQ 0 4);exact ad6
        ·obtain rfl:q4=k:=by omega
         clear hk hlt;have hX:zS w V3 wr (aV r ⟨A1,q1,c1⟩ ⟨A2,q2,c2⟩ ⟨A3,q3,c3⟩ ⟨A4,q4,c4⟩ ⟨A5,q5,c5⟩ s6 s7) [.slice D0 m0 d0,.slice D1 m1 d1,v,.slice none 0 0] v (jF r):=by have h:=hN.out;rw[List.nil_append,List.take_of_length_le (by rw[List.length_map,HL.out.2.2.2.1];exact Nat.le_refl _)]at h;exact h
         obtain⟨D2,d2,rfl,hsl⟩:=hX.sl (by rw[List.length_map,HL.out.2.2.2.1];omega);obtain⟨m2,hm2⟩:=aC (List.length (jF r));have NV:=hX.fr;rw[hm2]at hsl NV;have G2:=Hd hsl;have N4:=Hd (zS.start NV);have G0:=Hd (G0.out.keep (hX.kp.mono (fun q hq=>by rw[List.mem_singleton]at hq;subst hq;exact List.mem_cons_self)));have G1:=Hd (G1.out.keep (hX.kp.mono (fun q hq=>by rw[List.mem_singleton]at hq;subst hq;exact List.mem_cons_self)));clear hX NV hsl hN;obtain⟨V4,rfl⟩:∃V,V=wr:=⟨_,rfl⟩;gi_wp2;gi_loopw[8] (fun i wr=>∃(k:Nat) (v:Value),k<=q5/\i=.int .i64 k/\Hid (zS w V4 wr (aV r ⟨A1,q1,c1⟩ ⟨A2,q2,c2⟩ ⟨A3,q3,c3⟩ ⟨A4,q4,c4⟩ ⟨A5,q5,c5⟩ s6 s7) [.slice D0 m0 d0,.slice D1 m1 d1,.slice D2 m2 d2,v] v ([]++(r.rounds.map (fun x=>x.1)).take k))) (fun i _=>q5-(intOf i).toNat);case atStart=>exact⟨0,_,Nat.zero_le _,rfl,N4⟩
         case round=>
          obtain⟨k,v,hk,rfl,hN⟩:=hrel;have hfo:=hN.out.fr;refine op1 hfo ?_;intros;clear hfo;by_cases hlt:k<q5;·obtain⟨x,hx⟩:=dW r.rounds k (by rw[HL.out.2.2.2.2];exact hlt);obtain⟨b,o,es,rfl,hes,hrw⟩:=H.out.2.2.2.2.get hx;obtain⟨_,_,_,rfl,-⟩:=jg hes;have e0:w.cell? ⟨b,o+k*13,none⟩=some (.string x.1):=hrw.2 0 _ rfl;have hbl:b<w.heap.size:=World.block_lt_of_cell? w _ e0;have e1:=(Keeps.of_below hN.out.fr.bl []).cell (by simp) e0;have hN0:=hN.out.drew;obtain⟨wd,hwd⟩:=aC wr.drew;rw[hwd]at hN0;obtain⟨v',wA,r1,r5,FA,NA⟩:=hN0.step x.1 (j:=3) (u0:=v) rfl (by exact aeK);rw[qE [] hx]at NA;obtain⟨A',c',hv'⟩:=NA.own.shape;obtain⟨n',hn'⟩:=aC (List.length ([]++(r.rounds.map (fun x=>x.1)).take (k+1)));rw[hn']at hv';subst hv';have u1:=aF (b:=w.heap.size+1+1) (hN.out.out _ (by omega)) (hN.out.fr.aQ 2 3);have u2:=aF (b:=w.heap.size) (hN.out.out _ (by omega)) (hN.out.fr.aQ 0 5);exact ad6
          ·obtain rfl:q5=k:=by omega
           clear hk hlt;have hX:zS w V4 wr (aV r ⟨A1,q1,c1⟩ ⟨A2,q2,c2⟩ ⟨A3,q3,c3⟩ ⟨A4,q4,c4⟩ ⟨A5,q5,c5⟩ s6 s7) [.slice D0 m0 d0,.slice D1 m1 d1,.slice D2 m2 d2,v] v (dQ r):=by have h:=hN.out;rw[List.nil_append,List.take_of_length_le (by rw[List.length_map,HL.out.2.2.2.2];exact Nat.le_refl _)]at h;exact h
           obtain⟨D3,d3,rfl,hsl⟩:=hX.sl (by rw[List.length_map,HL.out.2.2.2.2];omega);obtain⟨m3,hm3⟩:=aC (List.length (dQ r));have NV:=hX.fr;rw[hm3]at hsl NV;have G3:=Hd hsl;have G0:=Hd (G0.out.keep (hX.kp.mono (fun q hq=>by rw[List.mem_singleton]at hq;subst hq;exact List.mem_cons_self)));have G1:=Hd (G1.out.keep (hX.kp.mono (fun q hq=>by rw[List.mem_singleton]at hq;subst hq;exact List.mem_cons_self)));have G2:=Hd (G2.out.keep (hX.kp.mono (fun q hq=>by rw[List.mem_singleton]at hq;subst hq;exact List.mem_cons_self)));have N4:=Hd NV;clear hX NV hsl hN;obtain⟨V5,rfl⟩:∃V,V=wr:=⟨_,rfl⟩;gi_wp2;refine(fun(h:∀U,fM V5 (w.heap.size+1) 0 [.slice D0 m0 d0,.slice D1 m1 d1,.slice D2 m2 d2,.slice D3 m3 d3]=U->bodyPost _ _ _ _ _ U)=>h _ rfl) ?_;intro U hU;have hc:=iO (vs:= [.slice none 0 0,.slice none 0 0,.slice none 0 0,.slice none 0 0]) (us:= [.slice D0 m0 d0,.slice D1 m1 d1,.slice D2 m2 d2,.slice D3 m3 d3]) (fun i u hu=>N4.out.at_ (w.heap.size+1) [.slice none 0 0,.slice none 0 0,.slice none 0 0,.slice none 0 0] (by simp) i u hu) rfl hU;have z0:=(hc.1 0 _ rfl).1;have z1:=(hc.1 1 _ rfl).1;have z2:=(hc.1 2 _ rfl).1;have z3:=(hc.1 3 _ rfl).1;have kk:Keeps [w.heap.size+1+1,w.heap.size+1] V5 U:=hc.2.k.mono (fun q hq=>List.mem_cons_of_mem _ hq);exact⟨rfl,.agg #[.slice D0 m0 d0,.slice D1 m1 d1,.slice D2 m2 d2,.slice D3 m3 d3],by simp[results,go_sem,z0,z1,z2,z3],⟨D0,m0,d0⟩,⟨D1,m1,d1⟩,⟨D2,m2,d2⟩,⟨D3,m3,d3⟩,rfl,⟨(G0.out.keep kk).less (by simp),(G1.out.keep kk).less (by simp),(G2.out.keep kk).less (by simp),(G3.out.keep kk).less (by simp)⟩,N4.out.bl.trans (hc.2.bl.mono (by omega))⟩
end
section
namespace U
open Go.RowKit Go.Shelf
structure Keeps(s:Nat)(w w':World):Prop where
 size:w.heap.size<=w'.heap.size
 block:∀k,k<w.heap.size->k<s->w'.heap[k]?=w.heap[k]?
theorem Keeps.refl(s:Nat)(w:World):Keeps s w w:=⟨Nat.le_refl _,fun _ _ _=>rfl⟩
theorem Keeps.trans{s:Nat}{w w' w'':World}(h:Keeps s w w')(h':Keeps s w' w''):Keeps s w w'':=⟨Nat.le_trans h.size h'.size,fun k hk hm=>(h'.block k (Nat.lt_of_lt_of_le hk h.size) hm).trans (h.block k hk hm)⟩
theorem Keeps.of_below{w:World}(h:Below w.heap.size w w')(s:Nat):Keeps s w w':=⟨h.size,fun k hk _=>h.block k hk⟩
theorem Keeps.sU{w:World}{y:Nat}(h:Go.Proofs.YtlcgbfkdnmdigaaGreatDoor.Keeps [y] w w')(hy:s<=y):Keeps s w w':=⟨h.size,fun k hk hs=>h.block k hk (by simp;omega)⟩
theorem X5{w:World}{o:Nat}(h:w.cell? ⟨b,o,none⟩=some u):∀w',Keeps w.heap.size w.drew w'->w'.cell? ⟨b,o,none⟩=some u:=fun w' k=>by have hl:b<w.heap.size:=World.block_lt_of_cell? w _ h;have:=k.block b hl hl;rw[<-h];simp only[World.cell?,this];rfl
theorem bQ{w:World}{o:Nat}(hs:w.heap.size=s)(h:w.cell? ⟨b,o,none⟩=some u):∀w',Keeps s w.drew w'->w'.cell? ⟨b,o,none⟩=some u:=by subst hs;exact X5 h
section
variable {F:Fence}{n:Nat}{P:Program}{Mr:Nat}{md:Region.Mode}{ops:Array Oper}{Q:Exit→Act→World→Prop}
def nX(P:Program)(Mr:Nat)(o:Oper)(a:Act)(w:World)(v:Value):Prop:=∀w',Keeps Mr w w'->(execOp a.eval o).run P w'=.ok (.value v) w'
theorem uf{P:Program}{Mr:Nat}{w:World}{v:Value}(h:∀w',Keeps Mr w w'->∀Z:Result Next->Prop,Z (.ok (.value v) w')->Z ((execOp a.eval o).run P w')):nX P Mr o a w v:=fun w' hk=>h w' hk (fun r=>r=.ok (.value v) w') rfl
def dw(P:Program)(Mr:Nat)(ops:Array Oper)(o:Oper)(v:Value)(a:Act)(w:World):Prop:=(Region.wanted o (yielded ops a.tmps)=true/\nX P Mr o a w v)\/(Region.wanted o (yielded ops a.tmps)=false/\v=undef)
theorem dw.wpOpIn{i:Nat}{o:Oper}{v:Value}{a:Act}{w:World}(hm:Oper.mild o=true)(hi:ops[i]?=some o)(hy:dw P Mr ops o v a w)
 {K:Act->World->Prop}(h:K (a.put o.dst v) w):wpOpIn F n P ops Q i K a w:=by
 exact ae9
theorem dw.of_same{v:Value}{w:World}(hy:dw P Mr ops o v a w)(he:execOp a'.eval o=execOp a.eval o)
 (hw:Region.wanted o (yielded ops a'.tmps)=Region.wanted o (yielded ops a.tmps)):dw P Mr ops o v a' w:=by
 unfold dw nX at*;rw[he,hw];exact hy
theorem dw.later{v:Value}{w:World}(hy:dw P Mr ops o v a w)(hk:Keeps Mr w w'):dw P Mr ops o v a w':=by exact agm
theorem sG{oj:Oper}{v:Value}(hnd:∀c,oj.op≠.defer c)(hj:ops[j]?=some oj)(hap:oi.apart ops oj=true)
 (hsi:∀cs b,oi.op≠.select cs b) (hsj:∀cs b,oj.op≠.select cs b)
 (hQ:∀c a w,Q (.panic c) (a.put oi.dst v) w->Q (.panic c) a w) {K:Act->World->Prop}{w W:World}
 (hy:dw P Mr ops oi v a W) (h:wpOpIn F n P ops Q j K (a.put oi.dst v) w):
 wpOpIn F n P ops Q j (fun a' w'=>dw P Mr ops oi v a' W/\K (a'.put oi.dst v) w') a w:=by
 exact ad8
def jQ(F:Fence)(n:Nat)(P:Program)(Mr:Nat)(md:Region.Mode)(ops:Array Oper)(Q:Exit->Act->World->Prop)(n0:Nat)(L:Array Bool->Act->World->Prop):Nat->Array Bool->Act->World->Prop
 |0,listed,a,w=>L listed a w
 |f+1,listed,a,w=>
  Region.ready md ops listed≠ []/\
  ∀i∈Region.ready md ops listed,i<n0/\wpOpIn F n P ops Q i (fun a' w'=>Keeps Mr w w'/\jQ F n P Mr md ops Q n0 L f (listed.setIfInBounds i true) a' w') a w
theorem iK{n0 g:Nat}{L:Array Bool->Act->World->Prop}(hL:∀listed a w,L listed a w->wpAnyIn F n P md ops Q g listed a w):
 ∀(f:Nat) (listed:Array Bool) (a:Act) (w:World),jQ F n P Mr md ops Q n0 L f listed a w->wpAnyIn F n P md ops Q (f+g) listed a w
 |0,listed,a,w,h=>by rw[Nat.zero_add];exact hL _ _ _ h
 |f+1,listed,a,w,h=>by exact afH
theorem ni{v:Value}{L:Array Bool->Act->World->Prop}(hm:Oper.mild oi=true)(hi:ops[i]?=some oi)
 (hsel:∀(j:Nat) (o:Oper) cs b,ops[j]?=some o->o.op≠.select cs b) (hdef:uh ops=true)
 (hQ:∀c a w,Q (.panic c) (a.put oi.dst v) w->Q (.panic c) a w)
 (ht:kZ md ops n0=true) (hin:i<n0) (hdone:∀listed a w,L listed a w->∀j∈Region.ready md ops listed,n0<=j):
 ∀(f:Nat) (listed:Array Bool) (a:Act) (w:World),HeadInv md ops n0 listed->
  (∀j oj,ops[j]?=some oj->j≠i->listed.getD j true=false->(∀e∈oj.after,Region.binds md e=true->e.on≠i)->oi.apart ops oj=true)->
  i∈Region.ready md ops listed->dw P Mr ops oi v a w->
  jQ F n P Mr md ops Q n0 L f (listed.setIfInBounds i true) (a.put oi.dst v) w->jQ F n P Mr md ops Q n0 L (f+1) listed a w:=by
 intro f;exact ad_
end
section
variable {F:Fence}{n:Nat}{P:Program}{Mr:Nat}{Q:Exit→Act→World→Prop}
def qh(F:Fence)(n:Nat)(P:Program)(Mr:Nat)(ops:Array Oper)(Q:Exit->Act->World->Prop)(n0 f:Nat)(listed:Array Bool)(a:Act)(w:World):Prop:=jQ F n P Mr .any ops Q n0 (Lh F n P ops Q n0) f listed a w
theorem BR(Mr:Nat){ops:Array Oper}{w:World}(n0:Nat)(hm:P.follows .mixedOrders=true)(hok:um ops n0=true)
 (h:qh F n P Mr ops Q n0 n0 (Array.replicate ops.size false) a w.drew):(Code.region id ops true).wpIn F n P Q a w:=by
 exact ae7
theorem aP(Mr:Nat){ops:Array Oper}{w:World}(n0:Nat)(hm:P.follows .mixedOrders=true)(hok:um ops n0=true)
 (h:qh F n P Mr ops (cu Q) n0 n0 (Array.replicate ops.size false) a w.drew):(Code.region id ops true).wpIn F n P Q a w:=
 wpIn_mono (BR Mr n0 hm hok h) (fun e a w h=>by cases e<;>first|exact h|exact h.elim)
theorem FN{ops:Array Oper}{w:World}(g:Nat)(hl:listed=qO ops n0)(hg:ops.size-n0=g)(h:wpOpsIn F n P ops Q (List.range' n0 g) a w):qh F n P Mr ops Q n0 0 listed a w:=⟨hl,by rw[hg];exact h⟩
theorem Nz{l:List Oper}{w:World}(i:Nat)(hok:yO l.toArray n0 listed i=true)(ho:l[i]?=some o)(hm:Oper.mild o=true)
 (hw:Region.wanted o (yielded l.toArray a.tmps)=true) (hQ:∀d v c a w,Q (.panic c) (a.put d v) w->Q (.panic c) a w)
 (h:∃v,(∀w',Keeps Mr w w'->∀Z:Result Next->Prop,Z (.ok (.value v) w')->Z ((execOp a.eval o).run P w'))/\qh F n P Mr l.toArray Q n0 f (listed.setIfInBounds i true) (a.put o.dst v) w):
 qh F n P Mr l.toArray Q n0 (f+1) listed a w:=by
 exact aeC
def vG(F:Fence)(n:Nat)(P:Program)(Mr:Nat)(ops:Array Oper)(Q:Exit->Act->World->Prop)(n0 f:Nat)(listed:Array Bool)(a:Act)(w:World):List Nat->Prop
 | []=>True
 |i::r=>(i<n0/\wpOpIn F n P ops Q i (fun a' w'=>Keeps Mr w w'/\qh F n P Mr ops Q n0 f (listed.setIfInBounds i true) a' w') a w)/\vG F n P Mr ops Q n0 f listed a w r
theorem oQ{ops:Array Oper}{w:World}(i:Nat)(r:List Nat)(hr:Region.ready .any ops listed=i::r)(h:vG F n P Mr ops Q n0 f listed a w (i::r)):
 qh F n P Mr ops Q n0 (f+1) listed a w:=by
 exact aeG
theorem gU{ops:Array Oper}{w:World}:vG F n P Mr ops Q n0 f listed a w []:=trivial
theorem dN{l:List Oper}{w:World}{r:List Nat}(hi:i<n0)(ho:l[i]?=some o)(hw:Region.wanted o (yielded l.toArray a.tmps)=true)
 (h:∀K:Act->World->Prop,(∀a' w',Keeps Mr w w'/\qh F n P Mr l.toArray Q n0 f (listed.setIfInBounds i true) a' w'->K a' w')->o.wpIn F n P a w K Q)
 (hr:vG F n P Mr l.toArray Q n0 f listed a w r):vG F n P Mr l.toArray Q n0 f listed a w (i::r):=by
 refine⟨⟨hi,?_⟩,hr⟩;unfold wpOpIn;exact afg
end
attribute [irreducible] qh vG dw nX
section
variable {F:Fence}{n:Nat}{P:Program}{Mr:Nat}{Q:Exit→Act→World→Prop}
theorem ay{l:List Oper}{listed':Array Bool}{w:World}(i:Nat){v:Value}(h:U.qh F n P Mr l.toArray (cu Q) n0 f listed' a' w)
 (hok:yO l.toArray n0 listed i=true:=by kernel_rfl) (ho:l[i]?=some o:=by exact rfl) (hm:Oper.mild o=true:=by exact rfl)
 (hw:Region.wanted o (yielded l.toArray a.tmps)=true:=by exact aeB)
 (hv:∀w',U.Keeps Mr w w'->∀Z:Result Next->Prop,Z (.ok (.value v) w')->Z ((execOp a.eval o).run P w'):=by exact aft)
 (ha:a.put o.dst v=a':=by exact aeo)
 (hl:listed.setIfInBounds i true=listed':=by exact aeo):
 U.qh F n P Mr l.toArray (cu Q) n0 (f+1) listed a w:=
 U.Nz i hok ho hm hw BU ⟨v,hv,by rw[ha,hl];exact h⟩
theorem eU{l:List Oper}{w:World}(i:Nat)
 (h:∀K:Act->World->Prop,(∀a' w',U.Keeps Mr w w'/\U.qh F n P Mr l.toArray Q n0 f (listed.setIfInBounds i true) a' w'->K a' w')->o.wpIn F n P a w K Q)
 (hr:Region.ready .any l.toArray listed= [i]:=by kernel_rfl) (hi:i<n0:=by decide) (ho:l[i]?=some o:=by exact rfl)
 (hw:Region.wanted o (yielded l.toArray a.tmps)=true:=by exact aeB):
 U.qh F n P Mr l.toArray Q n0 (f+1) listed a w:=
 U.oQ i [] hr (U.dN hi ho hw h U.gU)
theorem iq{ops:Array Oper}{w:World}(g:Nat)(h:wpOpsIn F n P ops Q (List.range' n0 g) a w)(hl:listed=qO ops n0:=by kernel_rfl)(hg:ops.size-n0=g:=by exact rfl):U.qh F n P Mr ops Q n0 0 listed a w:=U.FN g hl hg h
end
end U
end
end Go.Proofs.YtlcgbfkdnmdigaaGreatDoor
