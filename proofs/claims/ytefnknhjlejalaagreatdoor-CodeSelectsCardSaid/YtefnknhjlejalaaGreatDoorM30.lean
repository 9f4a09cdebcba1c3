/- Lemmas and walks; no statement is proved here. -/
import Derived.Laws.EntriesVeiled
import Derived.Laws.StructEq
import Derived.Lib.Strings
import Derived.Test.YtefnknhjlejalaaGreatDoorM28
set_option linter.unusedVariables false
set_option linter.unusedSimpArgs false
set_option maxRecDepth 20000
set_option maxHeartbeats 6000000
namespace Go.Proofs.YtefnknhjlejalaaGreatDoor
open Go.Proofs.Tryz Go.RowKit Go.Shelf
theorem ac6{p:Prop}(h:p:=by
 gi_wp2_with (refine Cl gf HC.out ?_;rintro e w3 ⟨rfl,i3⟩;have I3:=Hd i3;clear i3)
 exact⟨⟨k+1,by omega,by go_num,I3⟩,by simp[intOf];omega⟩):p:=h
theorem adx{p:Prop}(h:p:=by
 have e:k=n:=by omega
 subst e;gi_wp2;go_ret;exact⟨rfl,hI.out⟩):p:=h
variable {l k b m yv wv s n c gf:Nat}{x:aU}{w w0 W0 W W':World}{M:List Nat}{cs:List Value}{P:Program}{R:Ending→World→Prop}{A:Option Addr}{l':List bK}{caps:Array Value}
section
attribute [local go_sem] Oper.semAt_some
def Df(w:World)(A:Option Addr)(k:Nat):List Value:=(List.range 5).map fun j=>(w.cell? ⟨(A.getD ⟨0,0,none⟩).block,(A.getD ⟨0,0,none⟩).off+k*5+j,none⟩).getD undef
def XI:List Value->Option Addr
 | [_,_,_,_,.slice A _ _]=>A
 |_=>none
mutual
def valsE(w:World):aU->List Value->List (List Value)
 | .mk _ _ _ _ l,cs=>cs::oW w l (XI cs) 0
def oW(w:World):List aU->Option Addr->Nat->List (List Value)
 | [],_,_=> []
 |x::l,A,k=>valsE w x (Df w A k)++oW w l A (k+1)
end
mutual
def iZ:aU->List aU
 | .mk k s n d l=>.mk k s n d l::Ah l
def Ah:List aU->List aU
 | []=> []
 |x::l=>iZ x++Ah l
end
theorem KC(w:World)(x:aU)(cs:List Value):valsE w x cs=cs::oW w x.l (XI cs) 0:=by cases x;rw[valsE];rfl
theorem lW(x:aU):iZ x=x::Ah x.l:=by cases x;rw[iZ];rfl
theorem vP(w:World)(A:Option Addr){l:List aU}(h:l[k]?=some x):oW w (l.drop k) A k=valsE w x (Df w A k)++oW w (l.drop (k+1)) A (k+1):=by rw[List.drop_eq_getElem_cons (List.getElem?_eq_some_iff.1 h).1,(List.getElem?_eq_some_iff.1 h).2,oW]
theorem qF{y x:aU}:∀{l:List aU},x∈l->y∈iZ x->y∈Ah l
 |z::l,hx,hy=>by
  rw[Ah];rcases List.mem_cons.1 hx with rfl|hx;·exact List.mem_append_left _ hy
  exact List.mem_append_right _ (qF hx hy)
theorem Vd{o:Nat}{es:List Value}(h:wR w M b (o+k*5) es)(hl:es.length=5):Df w (some ⟨b,o,none⟩) k=es:=by
 unfold Df;apply List.ext_getElem;·simp[hl]
 intro j h1 h2;have:=h.2 j es[j] (List.getElem?_eq_getElem h2);simp[this]
theorem Qg{y:aU}(h:kH w M x cs)(hk:x.l[k]?=some y):kH w M y (Df w (XI cs) k)/\∃b o,XI cs=some ⟨b,o,none⟩/\wR w M b (o+k*5) (Df w (XI cs) k):=by
 cases h with
 | @mk kind n d name l A m c es hi hl hc hr hs hb hx=>
   rcases hb with g|⟨b,o,rfl,g⟩;·rw[show(aU.mk kind name n d l).l=l from rfl,g]at hk;simp at hk
   ·have hkl:=(List.getElem?_eq_some_iff.1 hk).1;have h1:=hx k y hk;have e:Df w (XI [.int .i64 kind,.string name,.int .i64 n,.int .i64 d,.slice (some ⟨b,o,none⟩) m c]) k=es k:=Vd (g k hkl) h1.len;rw[e];exact⟨h1,b,o,rfl,g k hkl⟩
theorem KD:∀(x:aU) {w:World}{M:List Nat}{cs c:List Value},kH w M x cs->c∈valsE w x cs->∃y,y∈iZ x/\kH w M y c:=by
 intro x
 induction x using iY with
 |_ x ih=>
 intro w M cs c h hc;rw[KC]at hc;rw[lW];rcases List.mem_cons.1 hc with rfl|hc;·exact⟨x,List.mem_cons_self,h⟩
 have key:∀(j k:Nat),x.l.length-k=j->c∈oW w (x.l.drop k) (XI cs) k->∃y,y∈Ah x.l/\kH w M y c:=by
  intro j
  induction j with
  |zero=>intro k hk hm;rw[List.drop_of_length_le (by omega),oW]at hm;cases hm
  |succ j ihj=>
   intro k hk hm;have hkl:k<x.l.length:=by omega
   have hy:x.l[k]?=some x.l[k]:=List.getElem?_eq_getElem hkl;rw[vP w (XI cs) hy]at hm;rcases List.mem_append.1 hm with hm|hm;·obtain⟨y,h1,h2⟩:=ih _ (List.getElem_mem hkl) (Qg h hy).1 hm;exact⟨y,qF (List.getElem_mem hkl) h1,h2⟩
   ·exact ihj (k+1) (by omega) hm
 obtain⟨y,h1,h2⟩:=key _ 0 rfl (by rwa [List.drop_zero]);exact⟨y,List.mem_cons_of_mem _ h1,h2⟩
theorem GR(w:World)(A:Option Addr)(l:List aU):∀k,k<=l.length->∃p,oW w l A 0=p++oW w (l.drop k) A k
 |0,_=>⟨[],by simp⟩
 |k+1,h=>by obtain⟨p,hp⟩:=GR w A l k (by omega);rw[vP w A (List.getElem?_eq_getElem (show k<l.length by omega))]at hp;exact⟨_,by rw[hp,<-List.append_assoc]⟩
abbrev vS:List Value->Array Value:=fun c=>#[.agg c.toArray]
theorem Ja{m':Nat}{f:FuncId}{tmps:Array Value}{assign body:Code}(h:RoundIn Wd m P l f tmps assign body w R):RoundIn Wd m' P l f tmps assign body w R:=⟨h.1,fun c cs _=>h.2 c cs (fun d hd=>by cases hd)⟩
structure WkI(w0 W0 W:World)(M:List Nat)(yv wv l:Nat):Prop where
 kt:bn W0.heap.size M W0 W
 k0:Keeps M w0 W0
 hM:∀k,k∈M->k<W0.heap.size
 y0:W0.heap.size<=yv
 v0:W0.heap.size<=wv
 y:W.cell? ⟨yv,0,none⟩=some (.func (.yield l) #[] #[])
 v:W.cell? ⟨wv,0,none⟩=some (.func (.func 146) #[] #[.pointer (some ⟨yv,0,none⟩),.pointer (some ⟨wv,0,none⟩)])
theorem WkI.to(h:WkI w0 W0 W M yv wv l)(hs:s=W.heap.size)(k:bn s M W W'):WkI w0 W0 W' M yv wv l:=by subst hs;exact⟨h.kt.trans ⟨k.size,fun b hb hm=>k.block b (Nat.lt_of_lt_of_le hb h.kt.size) hm⟩,h.k0,h.hM,h.y0,h.v0,k.IC (World.block_lt_of_cell? W _ h.y) (fun e=>by have e:yv∈M:=e;have:=h.hM _ e;have:=h.y0;omega) h.y,k.IC (World.block_lt_of_cell? W _ h.v) (fun e=>by have e:wv∈M:=e;have:=h.hM _ e;have:=h.v0;omega) h.v⟩
theorem walk_any{XS:List (Array Value)}(J:List (Array Value)->World->Prop)(Jx:World->Prop)(Jp:List PanicEntry->World->Prop)(hJ:∀r,jC W0.heap.size (J r))
 (mO:∀s x rest W1,(∃pre,XS=pre++x::rest)->W0.heap.size<=s->s<=W1.heap.size->bn W0.heap.size M W0 W1->J (x::rest) W1->YieldAt Wd 8 prog l x W1 fun e W2=>(e=.returned (.bool true)/\J rest W2/\bn s M W1 W2)\/(e=.returned (.bool false)/\Jx W2)\/(∃ch,e=.panicked ch/\Jp ch W2)):
 ∀(x:aU) {cs:List Value}{rest:List (Array Value)}{W:World},kH w0 M x cs->WkI w0 W0 W M yv wv l->(∃pre,XS=pre++((valsE w0 x cs).map vS++rest))->J ((valsE w0 x cs).map vS++rest) W->Calls prog 146 #[.agg cs.toArray,.pointer (some ⟨yv,0,none⟩),.pointer (some ⟨wv,0,none⟩)] W fun e W'=>
   (e=.returned (.bool true)/\J rest W'/\bn W.heap.size M W W')\/(e=.returned (.bool false)/\Jx W')\/(∃ch,e=.panicked ch/\Jp ch W'):=by
 intro x
 induction x using iY with
 |_ x ih=>
 intro cs rest W hr hW hpre hj;refine callsIn_wide (n:=9) |>.1 ?_;obtain⟨A,m,c,rfl,-,hsl⟩:=kH.sl hr;have hlen:=hsl.len;have hsm:=hsl.small;obtain⟨W1,hW1⟩:=aC (W.alloc (.cells #[.int .i64 x.kind,.string x.name,.int .i64 x.n,.int .i64 x.d,.slice A m c] 87));have F1:Fr W W1 [(W.heap.size, [.int .i64 x.kind,.string x.name,.int .i64 x.n,.int .i64 x.d,.slice A m c])]:=by rw[<-hW1];exact(Fr.nil W).a W.heap.size _ _
 have hk1:bn W.heap.size M W W1:=(Keeps.of_below F1.bl M).to (Nat.le_refl _);have hI1:=hW.to rfl hk1;have hj1:J ((valsE w0 x [.int .i64 x.kind,.string x.name,.int .i64 x.n,.int .i64 x.d,.slice A m c]).map vS++rest) W1:=by rw[<-hW1];exact(hJ _).alloc _ hj
 rw[KC]at hj1 hpre;have ZP:=hpre;obtain⟨fn,tmps,assign,body,hy,hR⟩:=mO W1.heap.size _ _ W1 ZP hI1.kt.size (Nat.le_refl _) hI1.kt hj1
 dsimp only[vS,List.map_cons]at hy
 have hy1:=hI1.y;have hv1:=hI1.v;have hsz:W.heap.size<W1.heap.size:=F1.mJ 0;have HR:=Hd2 (Ja (m':=8) hR) hsz;have H:=Zw hr hI1 hpre hlen hk1 hW.kt.size;have IH:=Hd ih;have HF:=Hd F1;refine op1 F1 ?_;intros;clear hr hW hI1 hpre ZP hj hj1 hk1 hR F1 ih hlen hsl;refine ent func146 rfl ntmps146 ?_
 gi_wp2_with (first
  |(refine HR.out.1.mono ?_;rintro e W3 (⟨rfl,hJ3,hk3⟩|⟨rfl,hx3⟩|⟨ch,rfl,hp3⟩);all_goals try have c4:=hk3.IC (o:=4) HR.out.2 (fun e=>by have:=H.out.2.1.hM _ e;have:=H.out.2.2.2.2.2;omega) (HF.out.aQ 0 4))
  |fail)
 rotate_left;·go_ret;exact .inr (.inl ⟨rfl,hx3⟩)
 ·exact⟨rfl,.inr (.inr ⟨ch,rfl,hp3⟩)⟩
 have HJ3:=Hd2 hJ3 hk3;clear hJ3 hk3;gi_loopw[14] (fun i wr=>∃k:Nat,k<=m/\i=.int .i64 k/\Hid (J ((oW w0 (x.l.drop k) A k).map vS++rest) wr/\bn W1.heap.size M W1 wr)) (fun i _=>m-(intOf i).toNat);case atStart=>exact⟨0,Nat.zero_le _,rfl,by rw[List.drop_zero];exact HJ3⟩
 case round=>
  obtain⟨k,hk,rfl,hS⟩:=hrel;by_cases hlt:k<m
  ·obtain⟨y,hyk⟩:=dW x.l k (by have:=H.out.2.2.2.1;omega);obtain⟨Ve,b,o,eA,hrow⟩:=Qg H.out.1 hyk;have eA:A=some ⟨b,o,none⟩:=eA;subst eA;have hIr:=H.out.2.1.to rfl hS.out.2;have hrow2:=hrow.keep (hIr.k0.Uh hIr.kt hIr.k0.size);have hve:=vP w0 (some ⟨b,o,none⟩) hyk;obtain⟨D,m2,d2,ec,-,hsy⟩:=kH.sl Ve;simp only[show XI [.int .i64 x.kind,.string x.name,.int .i64 x.n,.int .i64 x.d,.slice (some ⟨b,o,none⟩) m c]=some ⟨b,o,none⟩from rfl]at ec Ve hrow2;rw[ec]at Ve hrow2 hve;obtain⟨V1,hV1⟩:=aC (wr.alloc (.cells #[.int .i64 y.kind,.string y.name,.int .i64 y.n,.int .i64 y.d,.slice D m2 d2] 87));have G1:Fr wr V1 [(wr.heap.size, [.int .i64 y.kind,.string y.name,.int .i64 y.n,.int .i64 y.d,.slice D m2 d2])]:=by rw[<-hV1];exact(Fr.nil wr).a wr.heap.size _ _
   have hkV:bn wr.heap.size M wr V1:=(Keeps.of_below G1.bl M).to (Nat.le_refl _);have hIV:=hIr.to rfl hkV;have hjV:J ((valsE w0 y [.int .i64 y.kind,.string y.name,.int .i64 y.n,.int .i64 y.d,.slice D m2 d2]).map vS++((oW w0 (x.l.drop (k+1)) (some ⟨b,o,none⟩) (k+1)).map vS++rest)) V1:=by have:=hS.out.1;rw[hve,List.map_append,List.append_assoc]at this;rw[<-hV1];exact(hJ _).alloc _ this
   have hpV:∃pre,XS=pre++((valsE w0 y [.int .i64 y.kind,.string y.name,.int .i64 y.n,.int .i64 y.d,.slice D m2 d2]).map vS++((oW w0 (x.l.drop (k+1)) (some ⟨b,o,none⟩) (k+1)).map vS++rest)):=by obtain⟨pre,hp⟩:=H.out.2.2.1;obtain⟨p,hq⟩:=GR w0 (some ⟨b,o,none⟩) x.l k (by have:=H.out.2.2.2.1;omega);simp only[show XI [.int .i64 x.kind,.string x.name,.int .i64 x.n,.int .i64 x.d,.slice (some ⟨b,o,none⟩) m c]=some ⟨b,o,none⟩from rfl]at hp;rw[hq,hve]at hp;refine⟨pre++(([[.int .i64 x.kind,.string x.name,.int .i64 x.n,.int .i64 x.d,.slice (some ⟨b,o,none⟩) m c]]:List (List Value))++p).map vS,hp.trans ?_⟩;simp only[List.map_cons,List.map_nil,List.map_append,List.append_assoc,List.cons_append,List.nil_append]
   have hc:=IH.out y (List.mem_of_getElem? hyk) Ve hIV hpV hjV;have h0:wr.cell? ⟨b,o+k*5,none⟩=some (.int .i64 y.kind):=hrow2.2 0 _ rfl;have h1:wr.cell? ⟨b,o+k*5+1,none⟩=some (.string y.name):=hrow2.2 1 _ rfl;have h2:wr.cell? ⟨b,o+k*5+2,none⟩=some (.int .i64 y.n):=hrow2.2 2 _ rfl;have h3:wr.cell? ⟨b,o+k*5+3,none⟩=some (.int .i64 y.d):=hrow2.2 3 _ rfl;have h4:wr.cell? ⟨b,o+k*5+4,none⟩=some (.slice D m2 d2):=hrow2.2 4 _ rfl;have w1:=hIV.v;have HC:=fB hc (hS.out.2.trans ⟨hkV.size,fun q hq hm=>hkV.block q (Nat.lt_of_lt_of_le hq hS.out.2.size) hm⟩) (show W1.heap.size<=V1.heap.size from Nat.le_trans hS.out.2.size hkV.size);refine op1 G1 ?_;intros;clear hc hpV hjV hkV hIV hIr hrow hrow2 Ve hve hsy G1 hyk
   gi_wp2_with (first
    |(refine Cl 146 HC.out.1 ?_;rintro e W4 (⟨rfl,hJ4,hk4⟩|⟨rfl,hx4⟩|⟨ch,rfl,Yc⟩))
    |fail)
   ·exact⟨⟨k+1,by omega,by go_num,hJ4,HC.out.2.1.trans ⟨hk4.size,fun q hq hm=>hk4.block q (Nat.lt_of_lt_of_le hq HC.out.2.2) hm⟩⟩,by simp[intOf];omega⟩
   ·go_ret;exact .inr (.inl ⟨rfl,hx4⟩)
   exact⟨rfl,.inr (.inr ⟨ch,rfl,Yc⟩)⟩
  ·have hS2:=hS.out;rw[List.drop_of_length_le (by have:=H.out.2.2.2.1;omega),oW]at hS2;have HS2:=Hd hS2;clear hS hS2;gi_wp2;go_ret;exact .inl ⟨rfl,HS2.out.1,H.out.2.2.2.2.1.trans ⟨HS2.out.2.size,fun q hq hm=>HS2.out.2.block q (Nat.lt_of_lt_of_le hq H.out.2.2.2.2.1.size) hm⟩⟩
theorem xR{b1:Nat}(hx:kH w0 M x cs)(hc:∀i u,cs[i]?=some u->w0.cell? ⟨b1,i,none⟩=some u)(m1:b1∉M)(hM:∀k,k∈M->k<w0.heap.size):
 Yields Wd prog 145 #[.pointer (some ⟨b1,0,none⟩)] w0 M ((valsE w0 x cs).map vS):=by
 intro l J Jx Jp W hkW hJ hJx hJ0 mO;have hx2:=hx;obtain⟨A,m,c,rfl,-,-⟩:=kH.sl hx2;obtain⟨W1,hW1⟩:=aC ((W.alloc (.cells #[.func (.yield l) #[] #[]] 184)).alloc (.cells #[.func (.func 146) #[] #[.pointer (some ⟨W.heap.size,0,none⟩),.pointer (some ⟨W.heap.size+1,0,none⟩)]] 184));have F1:Fr W W1 [(W.heap.size, [.func (.yield l) #[] #[]]),(W.heap.size+1, [.func (.func 146) #[] #[.pointer (some ⟨W.heap.size,0,none⟩),.pointer (some ⟨W.heap.size+1,0,none⟩)]])]:=by rw[<-hW1];exact((Fr.nil W).a W.heap.size _ _).a (W.heap.size+1) _ _
 have kt:bn W.heap.size M W W1:=(Keeps.of_below F1.bl M).to (Nat.le_refl _);have hI:WkI w0 W W1 M W.heap.size (W.heap.size+1) l:=⟨kt,hkW,fun k hk=>Nat.lt_of_lt_of_le (hM k hk) hkW.size,Nat.le_refl _,Nat.le_succ _,F1.aQ 0 0,F1.aQ 1 0⟩;have hj:J ((valsE w0 x [.int .i64 x.kind,.string x.name,.int .i64 x.n,.int .i64 x.d,.slice A m c]).map vS++ []) W1:=by rw[List.append_nil,<-hW1];exact(hJ _).alloc _ ((hJ _).alloc _ hJ0)
 have HC:=Hd (walk_any J Jx Jp hJ mO x hx hI ⟨[],by simp⟩ hj);have e0:W1.cell? ⟨b1,0,none⟩=_:=(F1.bl.cell (p:=⟨b1,0,none⟩) (World.block_lt_of_cell? W _ (hkW.cell m1 (hc 0 _ rfl)))).trans (hkW.cell m1 (hc 0 _ rfl));have e1:W1.cell? ⟨b1,1,none⟩=_:=(F1.bl.cell (p:=⟨b1,1,none⟩) (World.block_lt_of_cell? W _ (hkW.cell m1 (hc 1 _ rfl)))).trans (hkW.cell m1 (hc 1 _ rfl));have e2:W1.cell? ⟨b1,2,none⟩=_:=(F1.bl.cell (p:=⟨b1,2,none⟩) (World.block_lt_of_cell? W _ (hkW.cell m1 (hc 2 _ rfl)))).trans (hkW.cell m1 (hc 2 _ rfl));have e3:W1.cell? ⟨b1,3,none⟩=_:=(F1.bl.cell (p:=⟨b1,3,none⟩) (World.block_lt_of_cell? W _ (hkW.cell m1 (hc 3 _ rfl)))).trans (hkW.cell m1 (hc 3 _ rfl));have e4:W1.cell? ⟨b1,4,none⟩=_:=(F1.bl.cell (p:=⟨b1,4,none⟩) (World.block_lt_of_cell? W _ (hkW.cell m1 (hc 4 _ rfl)))).trans (hkW.cell m1 (hc 4 _ rfl));refine op1 F1 ?_;intros;clear hx hx2 hc hkW hI hj mO hJ0 F1 kt;simp only[List.append_toArray,List.cons_append,List.nil_append];refine ent func145 rfl ntmps145 ?_
 gi_wp2_with (first
  |(refine Cl 146 HC.out ?_;rintro e W4 (⟨rfl,hJ4,hk4⟩|⟨rfl,hx4⟩|⟨ch,rfl,Yc⟩))
  |fail)
 ·go_end0;exact .inl ⟨⟨_,rfl⟩,.inl hJ4⟩
 ·go_end0;exact .inl ⟨⟨_,rfl⟩,.inr hx4⟩
 ·exact⟨rfl,.inr ⟨ch,rfl,Yc⟩⟩
theorem Dh(x:aU)(A:Option Addr)(m c:Nat)(w:World):
 Calls prog 100 #[.agg #[.int .i64 x.kind,.string x.name,.int .i64 x.n,.int .i64 x.d,.slice A m c]] w fun e w'=>e=.returned (.func (.func 145) #[] #[.pointer (some ⟨w.heap.size,0,none⟩)])/\w.alloc (.cells #[.int .i64 x.kind,.string x.name,.int .i64 x.n,.int .i64 x.d,.slice A m c] 87)=w':=by
 refine wid ?_;refine ent func100 rfl ntmps100 ?_;gi_wp2;go_ret;exact⟨rfl,rfl⟩
abbrev u_(p:Int)(n r:Bool):Value:=.agg #[.int .i64 p,.bool n,.bool r]
def vT:List (Int×Value):= [(11,u_ 4 false false),(10,u_ 2 false false),(9,u_ 2 false false),(8,u_ 1 true false),(7,u_ 2 false false),(6,u_ 2 false false),(5,u_ 0 false true),(4,u_ 0 false false),(3,u_ 0 false false),(2,u_ 0 false true),(1,u_ 0 true false)]
abbrev Jb:List Value:= [u_ 0 false false,u_ 0 true false,u_ 0 false true,u_ 2 false false,u_ 1 true false,u_ 4 false false]
theorem Rq(w:World):(Instr.makeMap 231 none).run prog w=.ok (.map (some w.heap.size)) (w.alloc (.map #[] 0)):=by rfl
theorem NZ(w:World):(zeroValue 234).run prog w=.ok (u_ 0 false false) w:=by kernel_rfl
theorem N7(w:World):Calls prog 187 #[] w fun e w'=>∃n,e=.returned (.map (some w.heap.size))/\MV Jb w' w.heap.size n (qZ vT)/\Below w.heap.size w w':=by
 refine wid ?_;have mm:=Rq;obtain⟨w0,e0⟩:=aC (w.alloc (.map #[] 0));have m0:MV Jb w0 w.heap.size 0 (fun _=>none):=by rw[<-e0];exact MV.new _ w
 have b:Below w.heap.size w w0:=by rw[<-e0];exact bel
 obtain⟨w1,r1,m1,t1⟩:=m0.store (k:=1) underlying231 (by unfold i64;omega) (v:=u_ 0 true false) (by simp) (by omega);replace b:=b.grown t1.grown (Nat.le_of_lt m0.lt) (fun q hq=>by cases hq;exact Nat.le_refl _);obtain⟨w2,r2,m2,t2⟩:=m1.store (k:=2) underlying231 (by unfold i64;omega) (v:=u_ 0 false true) (by simp) (by omega);replace b:=b.grown t2.grown (Nat.le_of_lt m1.lt) (fun q hq=>by cases hq;exact Nat.le_refl _);obtain⟨w3,r3,m3,t3⟩:=m2.store (k:=3) underlying231 (by unfold i64;omega) (v:=u_ 0 false false) (by simp) (by omega);replace b:=b.grown t3.grown (Nat.le_of_lt m2.lt) (fun q hq=>by cases hq;exact Nat.le_refl _);obtain⟨w4,r4,m4,t4⟩:=m3.store (k:=4) underlying231 (by unfold i64;omega) (v:=u_ 0 false false) (by simp) (by omega);replace b:=b.grown t4.grown (Nat.le_of_lt m3.lt) (fun q hq=>by cases hq;exact Nat.le_refl _);obtain⟨w5,r5,m5,t5⟩:=m4.store (k:=5) underlying231 (by unfold i64;omega) (v:=u_ 0 false true) (by simp) (by omega);replace b:=b.grown t5.grown (Nat.le_of_lt m4.lt) (fun q hq=>by cases hq;exact Nat.le_refl _);obtain⟨w6,r6,m6,t6⟩:=m5.store (k:=6) underlying231 (by unfold i64;omega) (v:=u_ 2 false false) (by simp) (by omega);replace b:=b.grown t6.grown (Nat.le_of_lt m5.lt) (fun q hq=>by cases hq;exact Nat.le_refl _);obtain⟨w7,r7,m7,t7⟩:=m6.store (k:=7) underlying231 (by unfold i64;omega) (v:=u_ 2 false false) (by simp) (by omega);replace b:=b.grown t7.grown (Nat.le_of_lt m6.lt) (fun q hq=>by cases hq;exact Nat.le_refl _);obtain⟨w8,r8,m8,t8⟩:=m7.store (k:=8) underlying231 (by unfold i64;omega) (v:=u_ 1 true false) (by simp) (by omega);replace b:=b.grown t8.grown (Nat.le_of_lt m7.lt) (fun q hq=>by cases hq;exact Nat.le_refl _);obtain⟨w9,r9,m9,t9⟩:=m8.store (k:=9) underlying231 (by unfold i64;omega) (v:=u_ 2 false false) (by simp) (by omega);replace b:=b.grown t9.grown (Nat.le_of_lt m8.lt) (fun q hq=>by cases hq;exact Nat.le_refl _);obtain⟨w10,r10,m10,t10⟩:=m9.store (k:=10) underlying231 (by unfold i64;omega) (v:=u_ 2 false false) (by simp) (by omega);replace b:=b.grown t10.grown (Nat.le_of_lt m9.lt) (fun q hq=>by cases hq;exact Nat.le_refl _);obtain⟨w11,r11,m11,t11⟩:=m10.store (k:=11) underlying231 (by unfold i64;omega) (v:=u_ 4 false false) (by simp) (by omega);replace b:=b.grown t11.grown (Nat.le_of_lt m10.lt) (fun q hq=>by cases hq;exact Nat.le_refl _);have H:=Hd2 m11 b;clear m0 m1 m2 m3 m4 m5 m6 m7 m8 m9 m10 m11 b t1 t2 t3 t4 t5 t6 t7 t8 t9 t10 t11;refine ent func187 rfl ntmps187 ?_;gi_wp2;go_ret;exact⟨11,rfl,H.out.1,H.out.2⟩
end
theorem Sl.xQ{l:List bK}{x:bK}(h:Sl bK w M A n c l)(hk:l[k]?=some x):∃b o,A=some ⟨b,o,none⟩/\(w.cell? ⟨b,o+k*3,none⟩=some (.int .i64 x.1)/\w.cell? ⟨b,o+k*3+1,none⟩=some (.string x.2.1)/\w.cell? ⟨b,o+k*3+2,none⟩=some (.int .i64 x.2.2)):=by obtain⟨b,o,es,rfl,h1,h2⟩:=h.get hk;obtain⟨rfl,-⟩:=rd_key h1;exact⟨b,o,rfl,h2.2 0 _ rfl,h2.2 1 _ rfl,h2.2 2 _ rfl⟩
theorem Ro(a b:ByteArray):(a.toList==b.toList)=decide (a=b):=by
 by_cases h:a=b;·subst h;simp
 rw[decide_eq_false h,beq_eq_false_iff_ne];exact fun e=>h (ByteArray.ext (Array.ext' (by rwa [Lib.toList_data,Lib.toList_data]at e)))
theorem Qd(x y:bK)(w:World):(binOp .neq 147 (.agg #[.int .i64 x.1,.string x.2.1,.int .i64 x.2.2]) (.agg #[.int .i64 y.1,.string y.2.1,.int .i64 y.2.2])).run prog w=.ok (.bool (!decide (x=y))) w:=by
 have e:decide (x=y)=(decide (x.1=y.1)&&(decide (x.2.1=y.2.1)&&decide (x.2.2=y.2.2))):=by obtain⟨a,b,c⟩:=x;obtain⟨a',b',c'⟩:=y;simp[Prod.mk.injEq]
 rw[e,<-Ro];by_cases h1:x.1=y.1
 ·by_cases h2:x.2.1.toList=y.2.1.toList
  ·by_cases h3:x.2.2=y.2.2;·go_simp
   go_simp
  go_simp
 go_simp
theorem U5{l:List bK}{x y:bK}(hx:l[k]?=some x)(hy:l'[k]?=some y):decide (l.drop k=l'.drop k)=(decide (x=y)&&decide (l.drop (k+1)=l'.drop (k+1))):=by obtain⟨h1,h2⟩:=List.getElem?_eq_some_iff.1 hx;obtain⟨h3,h4⟩:=List.getElem?_eq_some_iff.1 hy;have e1:=List.drop_eq_getElem_cons h1;have e2:=List.drop_eq_getElem_cons h3;rw[e1,e2,h2,h4];simp only[List.cons.injEq,Bool.decide_and]
set_option maxHeartbeats 8000000 in
theorem Ya{M':List Nat}{B:Option Addr}{d:Nat}{l:List bK}(hx:Sl bK w M A n c l)(hy:Sl bK w M' B m d l'):
 CB 127 #[.slice A n c,.slice B m d] (.bool (decide (l=l'))) w:=by
 refine wid ?_;have hl1:=hx.len;have hl2:=hy.len;have hsm:=hx.small;by_cases hnm:n=m
 ·subst hnm;have H:=Hd2 hx hy;have HL:=Hd2 hl1 hl2;have HB0:=Hd (Below.refl w.heap.size w);have Un:=Hd (show decide (l.drop 0=l'.drop 0)=decide (l=l') by simp);clear hx hy hl1 hl2;refine ent func127 rfl ntmps127 ?_;gi_wp2;gi_loopw[13] (fun i wr=>∃k:Nat,k<=n/\i=.int .i64 k/\Hid (Below w.heap.size w wr)/\Hid (decide (l.drop k=l'.drop k)=decide (l=l'))) (fun i _=>n-(intOf i).toNat);case atStart=>exact⟨0,Nat.zero_le _,rfl,HB0,Un⟩
  case round=>
   obtain⟨k,hk,rfl,hB,hS⟩:=hrel;by_cases hlt:k<n
   ·obtain⟨x,hxk⟩:=dW l k (by rw[HL.out.1];exact hlt);obtain⟨y,hyk⟩:=dW l' k (by rw[HL.out.2];exact hlt);have HST:=Hd (U5 hxk hyk);obtain⟨b1,o1,rfl,p0,p1,p2⟩:=(H.out.1.go hB.out).xQ hxk;obtain⟨b2,o2,rfl,q0,q1,q2⟩:=(H.out.2.go hB.out).xQ hyk;obtain⟨q,hq⟩:=aC (decide (x=y));have kn:=Qd x y;rw[hq]at kn;have HQ:=Hd hq;have v0:=ah p0;have v1:=ah p1;have v2:=ah p2;have v3:=ah q0;have v4:=ah q1;have v5:=ah q2;clear hxk hyk hq;gi_wp2;refine ak [] (List.range 9) (by kernel_rfl) (by kernel_rfl) ?_;refine eH ?_;refine aK ?_;refine lit ?_;cases q;·gi_wp2;go_ret;exact⟨by rw[<-hS.out,HST.out,HQ.out];rfl,hB.out.drew⟩
    gi_wp2;exact⟨⟨k+1,by omega,by go_num,hB.out.drew,Hd (by rw[<-hS.out,HST.out,HQ.out,Bool.true_and])⟩,by simp[intOf];omega⟩
   ·have hkn:k=n:=by omega
    clear hk hlt;subst hkn;have HE:=Hd (show decide (l=l')=true by rw[<-hS.out,List.drop_of_length_le (by rw[HL.out.1];exact Nat.le_refl _),List.drop_of_length_le (by rw[HL.out.2];exact Nat.le_refl _)];rfl);gi_wp2;go_ret;exact⟨by rw[HE.out];rfl,hB.out⟩
 ·have HE:=Hd (show decide (l=l')=false from decide_eq_false fun e=>by subst e;omega);clear hx hy hl1 hl2;refine ent func127 rfl ntmps127 ?_;gi_wp2;go_ret;exact⟨by rw[HE.out];rfl,Below.refl _ _⟩
section
attribute [local go_sem] Oper.semAt_some
theorem dM(n low high:Int)(w:World):CB 136 #[.int .i64 n,.int .i64 low,.int .i64 high] (.bool (decide (low<=n)&&decide (n<=high))) w:=by
 refine wid ?_;by_cases hl:low<=n;·refine ent func136 rfl ntmps136 ?_;gi_wp2;go_ret;exact⟨by simp[hl],Below.refl _ _⟩
 refine ent func136 rfl ntmps136 ?_;gi_wp2;go_ret;have hl2:¬low<=n:=by omega
 exact⟨by simp[hl2],Below.refl _ _⟩
theorem Di{l:List bT}(I:Nat->World->Prop)(eg:∀args w,(callFunc gf args).run prog w=.ok (.enter gf args) w)(hx:Sl bT w M A n c l)(h0:I 0 w)(hm:∀k W W',I k W->Below W.heap.size W W'->I k W')(hk:∀k W,I k W->Keeps M w W)
 (hf:∀k x W cs,l[k]?=some x->Rep.rd W M x cs->I k W->Calls prog gf (#[.agg cs.toArray]++caps) W fun e w'=>e=.returned (.bool true)/\I (k+1) w'):
 Calls prog 131 #[.slice A n c,.func (.func gf) #[] caps] w fun e w'=>e=.returned (.bool true)/\I n w':=by
 refine wid ?_;have hlen:=hx.len;have hsm:=hx.small;have H:=Hd5 hx h0 hm hk hf;clear hx h0 hm hk hf;refine ent func131 rfl ntmps131 ?_;gi_wp2;gi_loopw[9] (fun i wr=>∃k:Nat,k<=n/\i=.int .i64 k/\Hid (I k wr)) (fun i _=>n-(intOf i).toNat);case atStart=>exact⟨0,Nat.zero_le _,rfl,Hd H.out.2.1⟩
 case round=>
  obtain⟨k,hkn,rfl,hI⟩:=hrel;by_cases hlt:k<n;·obtain⟨x,hxk⟩:=dW l k (by omega);obtain⟨b,o,es,rfl,hes,hrow⟩:=(H.out.1.keep (H.out.2.2.2.1 k wr hI.out)).get hxk;obtain⟨rfl,-⟩:=lT hes;have h0:wr.cell? ⟨b,o+k*7,none⟩=some (.string x.1):=hrow.2 0 _ rfl;have h1:wr.cell? ⟨b,o+k*7+1,none⟩=some (.int .i64 x.2.1):=hrow.2 1 _ rfl;have h2:wr.cell? ⟨b,o+k*7+2,none⟩=some (.int .i64 x.2.2.1):=hrow.2 2 _ rfl;have h3:wr.cell? ⟨b,o+k*7+3,none⟩=some (.int .i64 x.2.2.2.1):=hrow.2 3 _ rfl;have h4:wr.cell? ⟨b,o+k*7+4,none⟩=some (.int .i64 x.2.2.2.2.1):=hrow.2 4 _ rfl;have h5:wr.cell? ⟨b,o+k*7+5,none⟩=some (.int .i64 x.2.2.2.2.2.1):=hrow.2 5 _ rfl;have h6:wr.cell? ⟨b,o+k*7+6,none⟩=some (.bool x.2.2.2.2.2.2):=hrow.2 6 _ rfl;obtain⟨V1,hV1,dD,G1⟩:=fP (w:=wr) ((Fr.nil wr).a wr.heap.size [.string x.1,.int .i64 x.2.1,.int .i64 x.2.2.1,.int .i64 x.2.2.2.1,.int .i64 x.2.2.2.2.1,.int .i64 x.2.2.2.2.2.1,.bool x.2.2.2.2.2.2] 95);refine op1 G1 ?_;intros;have HC:=Hd (H.out.2.2.2.2 k x V1 [.string x.1,.int .i64 x.2.1,.int .i64 x.2.2.1,.int .i64 x.2.2.2.1,.int .i64 x.2.2.2.2.1,.int .i64 x.2.2.2.2.2.1,.bool x.2.2.2.2.2.2] hxk (Rep.keep hes (Keeps.of_below dD _)) (H.out.2.2.1 k wr V1 hI.out dD));clear hxk hrow hes G1 dD;exact ac6
  ·exact adx
theorem Vf{l:List bW}(I:Nat->World->Prop)(eg:∀args w,(callFunc gf args).run prog w=.ok (.enter gf args) w)(hx:Sl bW w M A n c l)(h0:I 0 w)(hm:∀k W W',I k W->Below W.heap.size W W'->I k W')(hk:∀k W,I k W->Keeps M w W)
 (hf:∀k x W cs,l[k]?=some x->Rep.rd W M x cs->I k W->Calls prog gf (#[.agg cs.toArray]++caps) W fun e w'=>e=.returned (.bool true)/\I (k+1) w'):
 Calls prog 133 #[.slice A n c,.func (.func gf) #[] caps] w fun e w'=>e=.returned (.bool true)/\I n w':=by
 refine wid ?_;have hlen:=hx.len;have hsm:=hx.small;have H:=Hd5 hx h0 hm hk hf;clear hx h0 hm hk hf;refine ent func133 rfl ntmps133 ?_;gi_wp2;gi_loopw[9] (fun i wr=>∃k:Nat,k<=n/\i=.int .i64 k/\Hid (I k wr)) (fun i _=>n-(intOf i).toNat);case atStart=>exact⟨0,Nat.zero_le _,rfl,Hd H.out.2.1⟩
 case round=>
  obtain⟨k,hkn,rfl,hI⟩:=hrel;by_cases hlt:k<n;·obtain⟨x,hxk⟩:=dW l k (by omega);obtain⟨b,o,es,rfl,hes,hrow⟩:=(H.out.1.keep (H.out.2.2.2.1 k wr hI.out)).get hxk;obtain⟨rfl,-⟩:=oU hes;have h0:wr.cell? ⟨b,o+k*3,none⟩=some (.string x.1):=hrow.2 0 _ rfl;have h1:wr.cell? ⟨b,o+k*3+1,none⟩=some (.int .i64 x.2.1):=hrow.2 1 _ rfl;have h2:wr.cell? ⟨b,o+k*3+2,none⟩=some (.int .i64 x.2.2):=hrow.2 2 _ rfl;obtain⟨V1,hV1,dD,G1⟩:=fP (w:=wr) ((Fr.nil wr).a wr.heap.size [.string x.1,.int .i64 x.2.1,.int .i64 x.2.2] 121);refine op1 G1 ?_;intros;have HC:=Hd (H.out.2.2.2.2 k x V1 [.string x.1,.int .i64 x.2.1,.int .i64 x.2.2] hxk (Rep.keep hes (Keeps.of_below dD _)) (H.out.2.2.1 k wr V1 hI.out dD));clear hxk hrow hes G1 dD;exact ac6
  ·exact adx
theorem Ye{l:List dA}(I:Nat->World->Prop)(eg:∀args w,(callFunc gf args).run prog w=.ok (.enter gf args) w)(hx:Sl dA w M A n c l)(h0:I 0 w)(hm:∀k W W',I k W->Below W.heap.size W W'->I k W')(hk:∀k W,I k W->Keeps M w W)
 (hf:∀k x W cs,l[k]?=some x->Rep.rd W M x cs->I k W->Calls prog gf (#[.agg cs.toArray]++caps) W fun e w'=>e=.returned (.bool true)/\I (k+1) w'):
 Calls prog 137 #[.slice A n c,.func (.func gf) #[] caps] w fun e w'=>e=.returned (.bool true)/\I n w':=by
 refine wid ?_;have hlen:=hx.len;have hsm:=hx.small;have H:=Hd5 hx h0 hm hk hf;clear hx h0 hm hk hf;refine ent func137 rfl ntmps137 ?_;gi_wp2;gi_loopw[9] (fun i wr=>∃k:Nat,k<=n/\i=.int .i64 k/\Hid (I k wr)) (fun i _=>n-(intOf i).toNat);case atStart=>exact⟨0,Nat.zero_le _,rfl,Hd H.out.2.1⟩
 case round=>
  obtain⟨k,hkn,rfl,hI⟩:=hrel;by_cases hlt:k<n;·obtain⟨x,hxk⟩:=dW l k (by omega);obtain⟨b,o,es,rfl,hes,hrow⟩:=(H.out.1.keep (H.out.2.2.2.1 k wr hI.out)).get hxk;obtain⟨B,m,d,rfl,-⟩:=vJ hes;have h0:wr.cell? ⟨b,o+k*2,none⟩=some (.string x.1):=hrow.2 0 _ rfl;have h1:wr.cell? ⟨b,o+k*2+1,none⟩=some (.slice B m d):=hrow.2 1 _ rfl;obtain⟨V1,hV1,dD,G1⟩:=fP (w:=wr) ((Fr.nil wr).a wr.heap.size [.string x.1,.slice B m d] 169);refine op1 G1 ?_;intros;have HC:=Hd (H.out.2.2.2.2 k x V1 [.string x.1,.slice B m d] hxk (Rep.keep hes (Keeps.of_below dD _)) (H.out.2.2.1 k wr V1 hI.out dD));clear hxk hrow hes G1 dD;exact ac6
  ·exact adx
theorem Ru{l:List aJ}(I:Nat->World->Prop)(eg:∀args w,(callFunc gf args).run prog w=.ok (.enter gf args) w)(hx:Sl aJ w M A n c l)(h0:I 0 w)(hm:∀k W W',I k W->Below W.heap.size W W'->I k W')(hk:∀k W,I k W->Keeps M w W)
 (hf:∀k x W cs,l[k]?=some x->Rep.rd W M x cs->I k W->Calls prog gf (#[.agg cs.toArray]++caps) W fun e w'=>e=.returned (.bool true)/\I (k+1) w'):
 Calls prog 140 #[.slice A n c,.func (.func gf) #[] caps] w fun e w'=>e=.returned (.bool true)/\I n w':=by
 refine wid ?_;have hlen:=hx.len;have hsm:=hx.small;have H:=Hd5 hx h0 hm hk hf;clear hx h0 hm hk hf;refine ent func140 rfl ntmps140 ?_;gi_wp2;gi_loopw[9] (fun i wr=>∃k:Nat,k<=n/\i=.int .i64 k/\Hid (I k wr)) (fun i _=>n-(intOf i).toNat);case atStart=>exact⟨0,Nat.zero_le _,rfl,Hd H.out.2.1⟩
 case round=>
  obtain⟨k,hkn,rfl,hI⟩:=hrel;by_cases hlt:k<n;·obtain⟨x,hxk⟩:=dW l k (by omega);obtain⟨b,o,es,rfl,hes,hrow⟩:=(H.out.1.keep (H.out.2.2.2.1 k wr hI.out)).get hxk;obtain⟨B,m,d,rfl,-⟩:=jg hes;have h0:wr.cell? ⟨b,o+k*13,none⟩=some (.string x.1):=hrow.2 0 _ rfl;have h1:wr.cell? ⟨b,o+k*13+1,none⟩=some (.int .i64 x.2.1):=hrow.2 1 _ rfl;have h2:wr.cell? ⟨b,o+k*13+2,none⟩=some (.int .i64 x.2.2.1):=hrow.2 2 _ rfl;have h3:wr.cell? ⟨b,o+k*13+3,none⟩=some (.int .i64 x.2.2.2.1):=hrow.2 3 _ rfl;have h4:wr.cell? ⟨b,o+k*13+4,none⟩=some (.bool x.2.2.2.2.1):=hrow.2 4 _ rfl;have h5:wr.cell? ⟨b,o+k*13+5,none⟩=some (.bool x.2.2.2.2.2.1):=hrow.2 5 _ rfl;have h6:wr.cell? ⟨b,o+k*13+6,none⟩=some (.int .i64 (au x).kind):=hrow.2 6 _ rfl;have h7:wr.cell? ⟨b,o+k*13+7,none⟩=some (.string (au x).name):=hrow.2 7 _ rfl;have h8:wr.cell? ⟨b,o+k*13+8,none⟩=some (.int .i64 (au x).n):=hrow.2 8 _ rfl;have h9:wr.cell? ⟨b,o+k*13+9,none⟩=some (.int .i64 (au x).d):=hrow.2 9 _ rfl;have h10:wr.cell? ⟨b,o+k*13+10,none⟩=some (.slice B m d):=hrow.2 10 _ rfl;have h11:wr.cell? ⟨b,o+k*13+11,none⟩=some (.string x.2.2.2.2.2.2.2.1):=hrow.2 11 _ rfl;have h12:wr.cell? ⟨b,o+k*13+12,none⟩=some (.int .i64 x.2.2.2.2.2.2.2.2):=hrow.2 12 _ rfl;obtain⟨V1,hV1,dD,G1⟩:=fP (w:=wr) ((Fr.nil wr).a wr.heap.size [.string x.1,.int .i64 x.2.1,.int .i64 x.2.2.1,.int .i64 x.2.2.2.1,.bool x.2.2.2.2.1,.bool x.2.2.2.2.2.1,.int .i64 (au x).kind,.string (au x).name,.int .i64 (au x).n,.int .i64 (au x).d,.slice B m d,.string x.2.2.2.2.2.2.2.1,.int .i64 x.2.2.2.2.2.2.2.2] 89);refine op1 G1 ?_;intros;have HC:=Hd (H.out.2.2.2.2 k x V1 [.string x.1,.int .i64 x.2.1,.int .i64 x.2.2.1,.int .i64 x.2.2.2.1,.bool x.2.2.2.2.1,.bool x.2.2.2.2.2.1,.int .i64 (au x).kind,.string (au x).name,.int .i64 (au x).n,.int .i64 (au x).d,.slice B m d,.string x.2.2.2.2.2.2.2.1,.int .i64 x.2.2.2.2.2.2.2.2] hxk (Rep.keep hes (Keeps.of_below dD _)) (H.out.2.2.1 k wr V1 hI.out dD));clear hxk hrow hes G1 dD;exact ac6
  ·exact adx
theorem Qh{l:List bK}(I:Nat->World->Prop)(eg:∀args w,(callFunc gf args).run prog w=.ok (.enter gf args) w)(hx:Sl bK w M A n c l)(h0:I 0 w)(hm:∀k W W',I k W->Below W.heap.size W W'->I k W')(hk:∀k W,I k W->Keeps M w W)
 (hf:∀k x W cs,l[k]?=some x->Rep.rd W M x cs->I k W->Calls prog gf (#[.agg cs.toArray]++caps) W fun e w'=>e=.returned (.bool true)/\I (k+1) w'):
 Calls prog 101 #[.slice A n c,.func (.func gf) #[] caps] w fun e w'=>e=.returned (.bool true)/\I n w':=by
 refine wid ?_;have hlen:=hx.len;have hsm:=hx.small;have H:=Hd5 hx h0 hm hk hf;clear hx h0 hm hk hf;refine ent func101 rfl ntmps101 ?_;gi_wp2;gi_loopw[9] (fun i wr=>∃k:Nat,k<=n/\i=.int .i64 k/\Hid (I k wr)) (fun i _=>n-(intOf i).toNat);case atStart=>exact⟨0,Nat.zero_le _,rfl,Hd H.out.2.1⟩
 case round=>
  obtain⟨k,hkn,rfl,hI⟩:=hrel;by_cases hlt:k<n;·obtain⟨x,hxk⟩:=dW l k (by omega);obtain⟨b,o,es,rfl,hes,hrow⟩:=(H.out.1.keep (H.out.2.2.2.1 k wr hI.out)).get hxk;obtain⟨rfl,-⟩:=rd_key hes;have h0:wr.cell? ⟨b,o+k*3,none⟩=some (.int .i64 x.1):=hrow.2 0 _ rfl;have h1:wr.cell? ⟨b,o+k*3+1,none⟩=some (.string x.2.1):=hrow.2 1 _ rfl;have h2:wr.cell? ⟨b,o+k*3+2,none⟩=some (.int .i64 x.2.2):=hrow.2 2 _ rfl;obtain⟨V1,hV1,dD,G1⟩:=fP (w:=wr) ((Fr.nil wr).a wr.heap.size [.int .i64 x.1,.string x.2.1,.int .i64 x.2.2] 147);refine op1 G1 ?_;intros;have HC:=Hd (H.out.2.2.2.2 k x V1 [.int .i64 x.1,.string x.2.1,.int .i64 x.2.2] hxk (Rep.keep hes (Keeps.of_below dD _)) (H.out.2.2.1 k wr V1 hI.out dD));clear hxk hrow hes G1 dD;exact ac6
  ·exact adx
theorem Yf{l:List Int}(I:Nat->World->Prop)(eg:∀args w,(callFunc gf args).run prog w=.ok (.enter gf args) w)(hx:Sl Int w M A n c l)(h0:I 0 w)(hm:∀k W W',I k W->Below W.heap.size W W'->I k W')(hk:∀k W,I k W->Keeps M w W)
 (hf:∀k x W,l[k]?=some x->i64 x->I k W->Calls prog gf (#[.int .i64 x]++caps) W fun e w'=>e=.returned (.bool true)/\I (k+1) w'):
 Calls prog 185 #[.slice A n c,.func (.func gf) #[] caps] w fun e w'=>e=.returned (.bool true)/\I n w':=by
 refine wid ?_;have hlen:=hx.len;have hsm:=hx.small;have H:=Hd5 hx h0 hm hk hf;clear hx h0 hm hk hf;refine ent func185 rfl ntmps185 ?_;gi_wp2;gi_loopw[9] (fun i wr=>∃k:Nat,k<=n/\i=.int .i64 k/\Hid (I k wr)) (fun i _=>n-(intOf i).toNat);case atStart=>exact⟨0,Nat.zero_le _,rfl,Hd H.out.2.1⟩
 case round=>
  obtain⟨k,hkn,rfl,hI⟩:=hrel;by_cases hlt:k<n
  ·obtain⟨x,hxk⟩:=dW l k (by omega);obtain⟨b,o,es,rfl,hes,hrow⟩:=(H.out.1.keep (H.out.2.2.2.1 k wr hI.out)).get hxk;obtain⟨rfl,hi⟩:=hes;have h0:wr.cell? ⟨b,o+k,none⟩=some (.int .i64 x):=by have:=hrow.2 0 _ rfl;rwa [show Rep.sz Int=1 from rfl,Nat.mul_one]at this
   have HC:=Hd (H.out.2.2.2.2 k x wr hxk hi hI.out);clear hxk hrow hi;exact ac6
  ·exact adx
def rC(c:bT):Prop:=0<=c.2.1/\c.2.1<c.2.2.1/\c.2.2.1<=1000/\1<=c.2.2.2.1/\(c.2.2.1-c.2.1).tmod c.2.2.2.1=0/\1<=c.2.2.2.2.1/\c.2.2.2.2.1<=3/\0<=c.2.2.2.2.2.1/\(c.2.2.2.2.2.1=0\/c.2.2.2.2.1=2)
def mQ(x:bW):Prop:=0<=x.2.1/\x.2.1<=1048576/\1<=x.2.2/\x.2.2<=100
def sZ(k:bK):Prop:=k.1=1\/k.1=2\/k.1=5\/((k.1=3\/k.1=4\/k.1=6)/\k.2.2=0/\k.2.1.toList= [])
def pW:Int->List Int->Prop
 |_, []=>True
 |a,n::l=>0<=n/\n<=a/\pW n l
theorem Rx(x:bT)(h:rC x)(w:World):CB 132 #[.agg #[.string x.1,.int .i64 x.2.1,.int .i64 x.2.2.1,.int .i64 x.2.2.2.1,.int .i64 x.2.2.2.2.1,.int .i64 x.2.2.2.2.2.1,.bool x.2.2.2.2.2.2]] (.bool true) w:=by
 obtain⟨s,lo,hi,st,how,tr,rv⟩:=x;simp only[rC]at h;obtain⟨h1,h2,h3,h4,h5,h6,h7,h8,h9⟩:=h;refine wid ?_;obtain⟨W1,hW1,F1⟩:=nam ((Fr.nil w).a w.heap.size [.string s,.int .i64 lo,.int .i64 hi,.int .i64 st,.int .i64 how,.int .i64 tr,.bool rv] 95);refine op1 F1 ?_;intros;have HF:=Hd F1;have HW:=Hd2 h6 h7;have n1:¬lo<0:=by omega
 have n2:¬hi<=lo:=by omega
 have n3:¬1000<hi:=by omega
 have n4:¬st<1:=by omega
 have n5:¬st=0:=by omega
 have n6:IntKind.i64.wrap (hi-lo)=hi-lo:=by rw[IntKind.wrap_i64];omega
 clear F1 h1 h2 h3 h4 h6 h7;have ht2:¬tr<0:=by omega
 by_cases ht:tr=0
 ·subst ht;clear h9;refine ent func132 rfl ntmps132 ?_
  gi_wp2_with (first
   |(refine Cl 136 (dM how 1 3 W1) ?_;rintro e w2 ⟨rfl,hb2⟩;rw[decide_eq_true HW.out.1,decide_eq_true HW.out.2];have F2:=Hd (HF.out.go hb2);have hfo:=F2.out;refine op1 hfo ?_;intros;clear hb2 hfo)
   |(refine⟨trivial,?_⟩))
  go_ret;exact⟨rfl,F2.out.bl⟩
 obtain rfl:how=2:=h9.resolve_left ht;clear h9;refine ent func132 rfl ntmps132 ?_
 gi_wp2_with (first
  |(refine Cl 136 (dM 2 1 3 W1) ?_;rintro e w2 ⟨rfl,hb2⟩;rw[decide_eq_true HW.out.1,decide_eq_true HW.out.2];have F2:=Hd (HF.out.go hb2);have hfo:=F2.out;refine op1 hfo ?_;intros;clear hb2 hfo)
  |(refine⟨trivial,?_⟩))
 go_ret;exact⟨rfl,F2.out.bl⟩
theorem Ry(x:bW)(h:mQ x)(w:World):CB 134 #[.agg #[.string x.1,.int .i64 x.2.1,.int .i64 x.2.2]] (.bool true) w:=by
 obtain⟨s,v,m⟩:=x;simp only[mQ]at h;refine wid ?_;obtain⟨W1,hW1,F1⟩:=nam ((Fr.nil w).a w.heap.size [.string s,.int .i64 v,.int .i64 m] 121);refine op1 F1 ?_;intros;have HF:=Hd F1;have HW:=Hd2 h.1 h.2.1;have HV:=Hd2 h.2.2.1 h.2.2.2;clear F1 h;refine ent func134 rfl ntmps134 ?_
 gi_wp2_with (first
  |(have g:=F2.out;clear g;refine Cl 136 (dM m 1 100 _) ?_;rintro e w3 ⟨rfl,hb3⟩;rw[decide_eq_true HV.out.1,decide_eq_true HV.out.2];have F3:=Hd (F2.out.go hb3);clear hb3)
  |(refine Cl 136 (dM v 0 1048576 W1) ?_;rintro e w2 ⟨rfl,hb2⟩;rw[decide_eq_true HW.out.1,decide_eq_true HW.out.2];have F2:=Hd (HF.out.go hb2);have hfo:=F2.out;refine op1 hfo ?_;intros;clear hb2 hfo)
  |fail)
 go_ret;exact⟨rfl,F3.out.bl⟩
theorem Vg(k:bK)(h:sZ k)(w:World):CB 139 #[.agg #[.int .i64 k.1,.string k.2.1,.int .i64 k.2.2]] (.bool true) w:=by
 obtain⟨d,s,n⟩:=k;simp only[sZ]at h;refine wid ?_;rcases h with rfl|rfl|rfl|⟨rfl|rfl|rfl,rfl,hs⟩
 all_goals
  refine ent func139 rfl ntmps139 ?_;gi_wp2;go_ret;exact⟨rfl,by exact bel⟩
theorem N8{a n:Int}(hv:aZ w b (.int .i64 a))(h0:0<=n)(hn:n<=a):Calls prog 186 #[.int .i64 n,.pointer (some ⟨b,0,none⟩)] w fun e w'=>e=.returned (.bool true)/\KB b w w'/\aZ w' b (.int .i64 n):=by
 refine wid ?_;have c0:=hv.1;have f0:=hv.2;have H:=fB hv h0 hn;clear hv h0 hn;refine ent func186 rfl ntmps186 ?_
 gi_wp2_with (first
  |(refine Cl 136 (dM n 0 a w) ?_;rintro e w2 ⟨rfl,hb2⟩;rw[decide_eq_true H.out.2.1,decide_eq_true H.out.2.2];have H2:=Hd2 (H.out.1.block (hb2.block _ H.out.1.lt)) hb2;have c2:=H2.out.1.1;have f2:=H2.out.1.2;clear hb2)
  |fail)
 go_ret;have k0:KB b w w2:=⟨Keeps.of_below H2.out.2 _,H2.out.2.mono (Nat.le_of_lt H.out.1.lt)⟩;exact⟨rfl,k0.trans (KB.put H2.out.1),H2.out.1.put⟩
theorem GU{l:List Int}(hx:Sl Int w M A n c l)(hf:pW 1099511627776 l):CB 135 #[.slice A n c] (.bool true) w:=by
 refine wid ?_;obtain⟨W1,hW1,F1⟩:=nam ((Fr.nil w).a w.heap.size [.int .i64 1099511627776] 3);have hd:∀k x a,l[k]?=some x->pW a (l.drop k)->0<=x/\x<=a/\pW x (l.drop (k+1)):=fun k x a hk h=>by rw[List.drop_eq_getElem_cons (List.getElem?_eq_some_iff.1 hk).1,(List.getElem?_eq_some_iff.1 hk).2]at h;exact h
 have H:=Hd (Yf (gf:=186) (caps:=#[.pointer (some ⟨w.heap.size,0,none⟩)]) (w:=W1) (M:= [w.heap.size])
  (fun k W=>Keeps [w.heap.size] W1 W/\Below w.heap.size w W/\∃a,aZ W w.heap.size (.int .i64 a)/\pW a (l.drop k)) (enters_of (P:=prog) func186 (by kernel_rfl) rfl)
  (((hx.less (M':= []) (fun k hk=>by cases hk)).more (b:=w.heap.size) (Nat.le_refl _)).go F1.bl) ⟨Keeps.refl _ _,F1.bl,_,⟨F1.aQ 0 0,F1.zN 0 0⟩,by simpa using hf⟩
  (fun k W W' h hb=>⟨h.1.trans (Keeps.of_below hb _),h.2.1.trans (hb.mono h.2.1.size),by
    obtain⟨a,h1,h2⟩:=h.2.2;exact⟨a,h1.block (hb.block _ h1.lt),h2⟩⟩) (fun k W h=>h.1) (fun k x W hk hi h=>by
    obtain⟨h1,h2,a,h3,h4⟩:=h;obtain⟨g1,g2,g3⟩:=hd k x a hk h4;refine(N8 h3 g1 g2).mono ?_;rintro e w' ⟨rfl,kb,v⟩;exact⟨rfl,h1.trans kb.k,h2.trans kb.bl,x,v,g3⟩))
 have HF:=Hd F1;clear hx hf hd F1;refine ent func135 rfl ntmps135 ?_
 gi_wp2_with (first
  |(refine Cl 185 H.out ?_;rintro e w2 ⟨rfl,h2⟩;have HB:=Hd h2.2.1;clear h2)
  |fail)
 go_ret;exact⟨rfl,HB.out⟩
def pX(y:aU):Prop:=∃nu re,qZ vT y.kind=some (u_ (y.l.length:Nat) nu re)/\(re=false->y.name.toList= [])/\(nu=true->0<=y.n/\y.n<=1099511627776/\1<=y.d/\y.d<=1099511627776)/\(nu=false->y.d=0/\(re=false->y.n=0))
theorem kH.go{w':World}(h:kH w M x cs)(hb:Below w.heap.size w w'):kH w' M x cs:=h.keep (Keeps.of_below hb M)
theorem GX{v:Array Value}(h:v∈(valsE w x cs).map vS):v.size=1:=by obtain⟨c,-,rfl⟩:=List.mem_map.1 h;rfl
structure XJ(w W:World)(b vb n:Nat):Prop where
 bl:Below w.heap.size w W
 r:aZ W (w.heap.size+1) (.bool false)
 v:aZ W vb (.map (some b))
 mv:MV Jb W b n (qZ vT)
theorem XJ.Jc{vb B:Nat}(hB:w.heap.size<=B)(hb:b<B):jC B (fun W=>XJ w W b vb n):=by intro W W' row h hg hr;refine⟨kY (B:=B) (w:=w) (Nat.le_refl _) hB _ _ _ h.bl hg hr,jV B _ _ _ _ _ h.r hg hr,jV B _ _ _ _ _ h.v hg hr,h.mv.block (hg.block b h.mv.lt (fun e=>?_))⟩;have:=(hr b e.symm).1;omega
theorem XJ.go{w W W':World}{b vb n:Nat}(h:XJ w W b vb n)(k:Below W.heap.size W W'):XJ w W' b vb n:=⟨h.bl.trans (k.mono h.bl.size),h.r.block (k.block _ h.r.lt),h.v.block (k.block _ h.v.lt),h.mv.go k⟩
theorem Cr{args:Array Value}{Q:Ending->World->Prop}(f:FuncId)(h:Calls P f args w R)(k:∀e w',R e w'->Q e w'):Fence.wide.fn f/\CallsIn (Fence.wide.inRound l) n P f args w Q:=⟨trivial,((callsIn_wide.2 h).inRound l).mono k⟩
theorem vU(B b:Nat)(cs:List Value):jC B (fun W=>∀i u,cs[i]?=some u->W.cell? ⟨b,i,none⟩=some u):=fun W W' row h hg hr i u hu=>nO B _ _ W W' row (h i u hu) hg hr
theorem oq(h:Below W.heap.size W W')(hs:s<=W.heap.size)(M:List Nat):bn s M W W':=(Keeps.of_below h M).to hs
theorem Rz{N:List Nat}(hx:kH w N x [.int .i64 x.kind,.string x.name,.int .i64 x.n,.int .i64 x.d,.slice A m c])(hok:∀y,y∈iZ x->pX y):
 CB 143 #[.agg #[.int .i64 x.kind,.string x.name,.int .i64 x.n,.int .i64 x.d,.slice A m c]] (.bool true) w:=by
 refine wid ?_;obtain⟨W1,hW1,F1⟩:=nam (((Fr.nil w).a w.heap.size [.int .i64 x.kind,.string x.name,.int .i64 x.n,.int .i64 x.d,.slice A m c] 87).a (w.heap.size+1) [.bool false] 4);have HF:=Hd2 F1 ((hx.less (M':= []) (fun k hk=>by cases hk)).keep (Keeps.of_below F1.bl _));have Ko:=Hd hok;refine op1 F1 ?_;intros;clear F1 hx hok;refine sH func143 rfl ntmps143 ?_
 gi_wp2_with (first
  |(refine Cl 100 (Dh x A m c _) ?_;rintro e W4 ⟨rfl,hw4⟩;have HW4:=Hd hw4;clear hw4)
  |(refine Cl 187 (N7 W1) ?_;rintro e W2 ⟨n,rfl,mv,hb2⟩;obtain⟨W3,hW3,yY,F3⟩:=fP (w:=W2) ((HF.out.1.go hb2).a W2.heap.size [.map (some W1.heap.size)] 231);have HM:=fB (⟨F3.bl,⟨F3.aQ 1 0,F3.zN 1 0⟩,⟨F3.aQ 2 0,F3.zN 2 0⟩,mv.go yY⟩:XJ w W3 W1.heap.size W2.heap.size n) ((HF.out.2.go hb2).go yY) (show W1.heap.size<W3.heap.size from Nat.lt_of_lt_of_le mv.lt yY.size);refine op1 F3 ?_;intros;clear mv hb2)
  |fail)
 have hw:=HW4.out;have hb4:Below W3.heap.size W3 W4:=by rw[<-hw];exact bel
 have F4:Fr W3 W4 [(W3.heap.size, [.int .i64 x.kind,.string x.name,.int .i64 x.n,.int .i64 x.d,.slice A m c])]:=by rw[<-hw];exact(Fr.nil W3).a W3.heap.size _ _
 have HI:=HM.out.1.go hb4;have hlt:W1.heap.size<W4.heap.size:=Nat.lt_of_lt_of_le HM.out.2.2 hb4.size;have hx4:=HM.out.2.1.go hb4;refine m_ (M:= []) (w0:=W4) rfl rfl trivial (enters_of func145 (by kernel_rfl) rfl) (xR hx4 (F4.nth 0) (by simp) (fun k hk=>by cases hk)) (Keeps.refl _ _) (fun k hk=>by cases hk) (fun v hv=>GX hv) (fun rest W=>XJ w W W1.heap.size W2.heap.size n) (fun _ _=>False) (fun _=>XJ.Jc HI.bl.size hlt) (fun _=>kX _ _) HI ?round ?done ?stop;case stop=>rintro D j W hD hf;exact hf.elim
 case round=>
  rintro l s v rest W hpre hl hls hsW hrec hkW hI;obtain⟨pre,hpre⟩:=hpre;obtain⟨cs,hcs,rfl⟩:=List.mem_map.1 (show v∈(valsE W4 x [.int .i64 x.kind,.string x.name,.int .i64 x.n,.int .i64 x.d,.slice A m c]).map vS by rw[hpre];simp);obtain⟨y,hy,Ve⟩:=KD x hx4 hcs;obtain⟨D,m2,d2,rfl,hi64,hsy⟩:=kH.sl Ve;obtain⟨nu,re,hsh,q1,q2,q3⟩:=Ko.out y hy;obtain⟨V1,hV1,dD,G1⟩:=fP (w:=W) ((Fr.nil W).a W.heap.size [.int .i64 y.kind,.string y.name,.int .i64 y.n,.int .i64 y.d,.slice D m2 d2] 87);have hIV:=hI.go dD;have hlen:=hsy.len;gi_wp2;refine⟨oq dD hsW _,fun U=>XJ w U W1.heap.size W2.heap.size n/\∀i u, [Value.int .i64 y.kind,.string y.name,.int .i64 y.n,.int .i64 y.d,.slice D m2 d2][i]?=some u->U.cell? ⟨W.heap.size,i,none⟩=some u,(XJ.Jc HI.bl.size hlt).and (vU _ _ _),⟨hIV,G1.nth 0⟩,?_⟩;rintro U hxl hsU ⟨hIU,Nr⟩;have Vh:s<=U.heap.size:=by rw[hsU];exact Nat.le_trans hsW dD.size
  obtain⟨U1,hU1,yZ,G2⟩:=fP (w:=U) ((Fr.nil U).a U.heap.size [.int .i64 (y.l.length:Nat),.bool nu,.bool re] 234);have u0:U.cell? ⟨W.heap.size,0,none⟩=_:=Nr 0 _ rfl;have x0:U1.cell? ⟨W.heap.size,0,none⟩=_:=(yZ.cell (p:=⟨W.heap.size,0,none⟩) (World.block_lt_of_cell? U _ (Nr 0 _ rfl))).trans (Nr 0 _ rfl);have x1:U1.cell? ⟨W.heap.size,1,none⟩=_:=(yZ.cell (p:=⟨W.heap.size,1,none⟩) (World.block_lt_of_cell? U _ (Nr 1 _ rfl))).trans (Nr 1 _ rfl);have x2:U1.cell? ⟨W.heap.size,2,none⟩=_:=(yZ.cell (p:=⟨W.heap.size,2,none⟩) (World.block_lt_of_cell? U _ (Nr 2 _ rfl))).trans (Nr 2 _ rfl);have x3:U1.cell? ⟨W.heap.size,3,none⟩=_:=(yZ.cell (p:=⟨W.heap.size,3,none⟩) (World.block_lt_of_cell? U _ (Nr 3 _ rfl))).trans (Nr 3 _ rfl);have x4:U1.cell? ⟨W.heap.size,4,none⟩=_:=(yZ.cell (p:=⟨W.heap.size,4,none⟩) (World.block_lt_of_cell? U _ (Nr 4 _ rfl))).trans (Nr 4 _ rfl);have uv:=hIU.v.1;have hl:=hIU.mv.look_ok underlying231 (NZ U) (by simp) hi64.1;rw[hsh]at hl;simp only[Option.getD_some,Option.isSome_some]at hl;rw[hlen]at hl G2 hU1;have HE:=fB (hIU.go yZ) yZ Vh;have HG:=Hd G2;have p1:=aN (G2.aQ 0 1);have p2:=aN (G2.aQ 0 2);have w1:=fun h:nu=false=>(q3 h).1;have w2:=fun(h:nu=false) (h':re=false)=>(q3 h).2 h';refine op1 G2 ?_;intros;clear hpre hcs hy Ve hsy hsh hI hIV hIU Nr dD yZ G1 G2 hxl hsU Vh q3;cases nu<;>cases re
  all_goals
   try have w3:=w1 rfl
   try have w4:=w2 rfl rfl
   try have q4:=q1 rfl
   try have HQ:=Hd (q2 rfl)
   clear w1 w2 q1 q2
  ·gi_wp2;exact⟨oq HE.out.2.1 HE.out.2.2 _,HE.out.1⟩
  ·gi_wp2;exact⟨oq HE.out.2.1 HE.out.2.2 _,HE.out.1⟩
  all_goals
   gi_wp2_with (first
    |(have g:=HB6.out;clear g;refine Cr 136 (dM y.d 1 1099511627776 U6) ?_;rintro e U7 ⟨rfl,hb7⟩;rw[decide_eq_true HQ.out.2.2.1,decide_eq_true HQ.out.2.2.2];have HB7:=Hd (HB6.out.trans (hb7.mono HB6.out.size));clear hb7)
    |(refine Cr 136 (dM y.n 0 1099511627776 U1) ?_;rintro e U6 ⟨rfl,hb6⟩;rw[decide_eq_true HQ.out.1,decide_eq_true HQ.out.2.1];have HB6:=Hd hb6;have hfo:=HG.out.go hb6;have z3:=(hb6.cell (p:=⟨W.heap.size,3,none⟩) (World.block_lt_of_cell? U1 _ x3)).trans x3;refine op1 hfo ?_;intros;clear hb6 hfo)
    |fail)
   exact⟨oq (HE.out.2.1.trans (HB7.out.mono HE.out.2.1.size)) HE.out.2.2 _,HE.out.1.go HB7.out⟩
 case done=>rintro D W hD hI hdef;have r1:=hI.r.1;have r2:=hI.r.2;gi_wp2;refine⟨by simp,.inl ⟨_,_,rfl,run_takeDeferred (fA hdef),?_⟩⟩;exact⟨.bool true,by simp[results,go_sem,qg (cZ r1) (fA hdef)],rfl,nV (hI.bl.setCell (p:=⟨w.heap.size+1,0,none⟩) (by simp) _) (by have:=HI.bl.size;omega) (Nat.le_refl _)⟩
end
end Go.Proofs.YtefnknhjlejalaaGreatDoor
