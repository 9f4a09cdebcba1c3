/- Lemmas and walks; no statement is proved here. -/
import Derived.Test.YtefnknhjlejalaaGreatDoorM05
set_option linter.unusedVariables false
set_option linter.unusedSimpArgs false
set_option maxRecDepth 20000
set_option maxHeartbeats 6000000
namespace Go.Proofs.YtefnknhjlejalaaGreatDoor
open Go.Proofs.Tryz
theorem ae1{p:Prop}(h:p:=by clear h;refine ent func210 rfl ntmps210 ?_;gi_wp2;go_ret;exact⟨by first|rfl|simp,F.out.bl⟩):p:=h
variable {cs:List Value}{m b:Nat}{ps:List (Int×Int)}{W:World}{L:List (Nat×List Value)}
section
open Go.ChangeShapes Go.WideShapes Go.ChangeAt Go.RowKit Go.Deep Go.Joins
inductive aU where
 |mk (kind:Int) (name:ByteArray) (n d:Int) (l:List aU)
namespace aU
def kind:aU->Int|mk k _ _ _ _=>k
def name:aU->ByteArray|mk _ s _ _ _=>s
def n:aU->Int|mk _ _ n _ _=>n
def d:aU->Int|mk _ _ _ d _=>d
def l:aU->List aU|mk _ _ _ _ l=>l
end aU
inductive kH(w:World)(M:List Nat):aU->List Value->Prop
 |mk {kind n d:Int}{name:ByteArray}{l:List aU}{A:Option Addr}{m c:Nat}(es:Nat->List Value) (hi:i64 kind/\i64 n/\i64 d) (hl:l.length=m) (hc:m<=c) (hr:jG c) (hs:m<=140737488355328)
    (hb:l= []\/∃b o,A=some ⟨b,o,none⟩/\∀k,k<l.length->wR w M b (o+k*5) (es k)) (hx:∀k x,l[k]?=some x->kH w M x (es k)):
    kH w M (.mk kind name n d l) [.int .i64 kind,.string name,.int .i64 n,.int .i64 d,.slice A m c]
theorem kH.len{w:World}{M:List Nat}{x:aU}(h:kH w M x cs):cs.length=5:=by cases h;rfl
theorem kH.keep{w w':World}{M:List Nat}{x:aU}{cs:List Value}(h:kH w M x cs)(k:Keeps M w w'):kH w' M x cs:=by
 induction h with
 |mk es hi hl hc hr hs hb hx ih=>
  refine .mk es hi hl hc hr hs ?_ ih;rcases hb with g|⟨b,o,rfl,g⟩;·exact .inl g
  ·exact .inr ⟨b,o,rfl,fun j hj=>(g j hj).keep k⟩
theorem kH.less{w:World}{M M':List Nat}{x:aU}{cs:List Value}(h:kH w M x cs)(k:∀q,q∈M'->q∈M):kH w M' x cs:=by
 induction h with
 |mk es hi hl hc hr hs hb hx ih=>
  refine .mk es hi hl hc hr hs ?_ ih;rcases hb with g|⟨b,o,rfl,g⟩;·exact .inl g
  ·exact .inr ⟨b,o,rfl,fun j hj=>(g j hj).less k⟩
theorem kH.more{w:World}{M:List Nat}{x:aU}{p:Nat}(h:kH w M x cs)(k:w.heap.size<=p):kH w (p::M) x cs:=by
 induction h with
 |mk es hi hl hc hr hs hb hx ih=>
  refine .mk es hi hl hc hr hs ?_ ih;rcases hb with g|⟨b,o,rfl,g⟩;·exact .inl g
  ·refine .inr ⟨b,o,rfl,fun j hj=>⟨fun hm=>?_,(g j hj).2⟩⟩;have h5:=(hx j _ (List.getElem?_eq_getElem hj)).len;have hlt:b<w.heap.size:=World.block_lt_of_cell? w _ ((g j hj).2 0 _ (List.getElem?_eq_getElem (by omega)));rcases List.mem_cons.1 hm with e|e;·omega
   exact(g j hj).1 e
instance:Rep aU where
 sz:=5
 rd:=kH
 len:=kH.len
 keep:=kH.keep
 less:=kH.less
 more:=kH.more
instance:kE aU:=⟨by decide⟩
theorem kH.sl{w:World}{M:List Nat}{x:aU}(h:kH w M x cs):∃A m c,cs= [.int .i64 x.kind,.string x.name,.int .i64 x.n,.int .i64 x.d,.slice A m c]/\(i64 x.kind/\i64 x.n/\i64 x.d)/\Sl aU w M A m c x.l:=by
 cases h with
 | @mk kind n d name l A m c es hi hl hc hr hs hb hx=>
   refine⟨A,m,c,rfl,hi,hl,hc,hr,hs,?_⟩;rcases hb with g|⟨b,o,rfl,g⟩;·exact .inl g
   ·exact .inr ⟨b,o,rfl,fun k x hk=>⟨es k,hx k x hk,g k (List.getElem?_eq_some_iff.1 hk).1⟩⟩
theorem kH.of{w:World}{M:List Nat}{kind n d:Int}{name:ByteArray}{l:List aU}{A:Option Addr}{c:Nat}(hi:i64 kind/\i64 n/\i64 d)(h:Sl aU w M A m c l):kH w M (.mk kind name n d l) [.int .i64 kind,.string name,.int .i64 n,.int .i64 d,.slice A m c]:=by
 rcases h.at_ with g|⟨b,o,rfl,g⟩;·subst g;exact .mk (fun _=> []) hi h.len h.cap h.room h.small (.inl rfl) (fun k x hk=>by simp at hk)
 have key:∀k,∃es,∀x,l[k]?=some x->kH w M x es/\wR w M b (o+k*5) es:=fun k=>by
  cases e:l[k]? with
  |none=>exact⟨[],fun x hx=>by cases hx⟩
  |some y=>obtain⟨es,h1,h2⟩:=g k y e;exact⟨es,fun x hx=>by cases hx;exact⟨h1,h2⟩⟩
 refine .mk (fun k=>(key k).choose) hi h.len h.cap h.room h.small (.inr ⟨b,o,rfl,fun k hk=>((key k).choose_spec _ (List.getElem?_eq_getElem hk)).2⟩) (fun k x hk=>((key k).choose_spec x hk).1)
theorem Sl.qQ{w:World}{M:List Nat}{A:Option Addr}{c k:Nat}{l:List aU}{y:aU}(h:Sl aU w M A m c l)(hk:l[k]?=some y):
 ∃b o B n d,A=some ⟨b,o,none⟩/\(w.cell? ⟨b,o+k*5,none⟩=some (.int .i64 y.kind)/\w.cell? ⟨b,o+k*5+1,none⟩=some (.string y.name)/\w.cell? ⟨b,o+k*5+2,none⟩=some (.int .i64 y.n)/\w.cell? ⟨b,o+k*5+3,none⟩=some (.int .i64 y.d)/\w.cell? ⟨b,o+k*5+4,none⟩=some (.slice B n d))/\(i64 y.kind/\i64 y.n/\i64 y.d)/\Sl aU w M B n d y.l:=by
 obtain⟨b,o,es,rfl,h1,h2⟩:=h.get hk;obtain⟨B,n,d,rfl,hi,hs⟩:=kH.sl h1;exact⟨b,o,B,n,d,rfl,⟨h2.2 0 _ rfl,h2.2 1 _ rfl,h2.2 2 _ rfl,h2.2 3 _ rfl,h2.2 4 _ rfl⟩,hi,hs⟩
end
mutual
def nodes:aU->Nat
 | .mk _ _ _ _ l=>dh l+1
def dh:List aU->Nat
 | []=>0
 |x::l=>nodes x+dh l
end
mutual
def iM:aU->Nat
 | .mk _ _ _ _ l=>fO l+1
def fO:List aU->Nat
 | []=>0
 |x::l=>max (iM x) (fO l)
end
theorem gV(x:aU):nodes x=dh x.l+1:=by cases x;rw[nodes];rfl
theorem IQ(x:aU):iM x=fO x.l+1:=by cases x;rw[iM];rfl
theorem pV:∀a b:List aU,dh (a++b)=dh a+dh b
 | [],b=>by simp[dh]
 |x::a,b=>by rw[List.cons_append,dh,dh,pV a b];omega
theorem uY:∀a b:List aU,fO (a++b)=max (fO a) (fO b)
 | [],b=>by simp[fO]
 |x::a,b=>by rw[List.cons_append,fO,fO,uY a b];omega
theorem fK{x:aU}:∀{l:List aU},x∈l->nodes x<=dh l
 |y::l,h=>by
  rw[dh];rcases List.mem_cons.1 h with rfl|h;·omega
  have:=fK h;omega
theorem FU(x:aU):1<=nodes x:=by have:=gV x;omega
theorem Cb{l:List aU}{k:Nat}{x:aU}(h:l[k]?=some x):dh (l.take (k+1))=dh (l.take k)+nodes x:=by have hk:=(List.getElem?_eq_some_iff.1 h).1;rw[List.take_add_one,pV,h];simp[dh]
theorem Cc{l:List aU}{k:Nat}{x:aU}(h:l[k]?=some x):fO (l.take (k+1))=max (fO (l.take k)) (iM x):=by rw[List.take_add_one,uY,h];simp[fO]
theorem vI(l:List aU)(k:Nat):dh (l.take k)<=dh l:=by have h:=pV (l.take k) (l.drop k);rw[List.take_append_drop]at h;omega
theorem jX:∀l:List aU,l.length<=dh l
 | []=>Nat.le_refl _
 |x::l=>by have:=jX l;have:=FU x;simp[dh];omega
theorem iY{P:aU->Prop}(h:∀x,(∀y,y∈x.l->P y)->P x)(x:aU):P x:=by
 obtain⟨n,hn⟩:=aC (nodes x)
 induction n using Nat.strongRecOn generalizing x with
 |_ n ih=>subst hn;exact h x fun y hy=>ih _ (by have:=fK hy;rw[gV x];omega) y rfl
abbrev bT:=ByteArray×Int×Int×Int×Int×Int×Bool
abbrev bW:=ByteArray×Int×Int
abbrev bK:=Int×ByteArray×Int
abbrev dA:=ByteArray×List bK
abbrev aJ:=ByteArray×Int×Int×Int×Bool×Bool×aU×ByteArray×Int
structure aS where
 name:ByteArray
 aT:List bT
 bonus:List bW
 malus:List bW
 ties:List dA
 rounds:List aJ
 prizes:List Int
 points:List Int
 best:Int
structure dK where
 A:Option Addr
 n:Nat
 c:Nat
abbrev dK.v(s:dK):Value:=.slice s.A s.n s.c
section
variable {w w':World}{M:List Nat}{A:Option Addr}{n c k:Nat}
theorem lT{x:bT}(h:Rep.rd w M x cs):cs= [.string x.1,.int .i64 x.2.1,.int .i64 x.2.2.1,.int .i64 x.2.2.2.1,.int .i64 x.2.2.2.2.1,.int .i64 x.2.2.2.2.2.1,.bool x.2.2.2.2.2.2]/\i64 x.2.1/\i64 x.2.2.1/\i64 x.2.2.2.1/\i64 x.2.2.2.2.1/\i64 x.2.2.2.2.2.1:=by obtain⟨_,_,rfl,h0,_,_,rfl,⟨rfl,i1⟩,_,_,rfl,⟨rfl,i2⟩,_,_,rfl,⟨rfl,i3⟩,_,_,rfl,⟨rfl,i4⟩,_,_,rfl,⟨rfl,i5⟩,h6⟩:=h;have e0:_=_:=h0;have e6:_=_:=h6;subst e0;subst e6;exact⟨rfl,i1,i2,i3,i4,i5⟩
theorem oU{x:bW}(h:Rep.rd w M x cs):cs= [.string x.1,.int .i64 x.2.1,.int .i64 x.2.2]/\i64 x.2.1/\i64 x.2.2:=by obtain⟨_,_,rfl,h0,_,_,rfl,⟨rfl,i1⟩,⟨rfl,i2⟩⟩:=h;have e0:_=_:=h0;subst e0;exact⟨rfl,i1,i2⟩
theorem rd_key{x:bK}(h:Rep.rd w M x cs):cs= [.int .i64 x.1,.string x.2.1,.int .i64 x.2.2]/\i64 x.1/\i64 x.2.2:=by obtain⟨_,_,rfl,⟨rfl,i1⟩,_,_,rfl,h0,⟨rfl,i2⟩⟩:=h;have e0:_=_:=h0;subst e0;exact⟨rfl,i1,i2⟩
theorem vJ{x:dA}(h:Rep.rd w M x cs):∃B m d,cs= [.string x.1,.slice B m d]/\Sl bK w M B m d x.2:=by obtain⟨_,_,rfl,h0,B,m,d,rfl,hs⟩:=h;have e0:_=_:=h0;subst e0;exact⟨B,m,d,rfl,hs⟩
abbrev au(x:aJ):aU:=x.2.2.2.2.2.2.1
theorem jg{x:aJ}(h:Rep.rd w M x cs):∃B m d,cs= [.string x.1,.int .i64 x.2.1,.int .i64 x.2.2.1,.int .i64 x.2.2.2.1,.bool x.2.2.2.2.1,.bool x.2.2.2.2.2.1,.int .i64 (au x).kind,.string (au x).name,.int .i64 (au x).n,.int .i64 (au x).d,.slice B m d,.string x.2.2.2.2.2.2.2.1,.int .i64 x.2.2.2.2.2.2.2.2]/\
 (i64 x.2.1/\i64 x.2.2.1/\i64 x.2.2.2.1/\i64 x.2.2.2.2.2.2.2.2)/\(i64 (au x).kind/\i64 (au x).n/\i64 (au x).d)/\Sl aU w M B m d (au x).l:=by
 obtain⟨_,_,rfl,h0,_,_,rfl,⟨rfl,i1⟩,_,_,rfl,⟨rfl,i2⟩,_,_,rfl,⟨rfl,i3⟩,_,_,rfl,h4,_,_,rfl,h5,_,_,rfl,h6,_,_,rfl,h7,⟨rfl,i8⟩⟩:=h;have e0:_=_:=h0;have e4:_=_:=h4;have e5:_=_:=h5;have e7:_=_:=h7;subst e0;subst e4;subst e5;subst e7;obtain⟨B,m,d,rfl,hi,hs⟩:=kH.sl h6;exact⟨B,m,d,rfl,⟨i1,i2,i3,i8⟩,hi,hs⟩
theorem Sl.n_{l:List dA}{x:dA}(h:Sl dA w M A n c l)(hk:l[k]?=some x):∃b o B m d,A=some ⟨b,o,none⟩/\(w.cell? ⟨b,o+k*2,none⟩=some (.string x.1)/\w.cell? ⟨b,o+k*2+1,none⟩=some (.slice B m d))/\Sl bK w M B m d x.2:=by obtain⟨b,o,es,rfl,h1,h2⟩:=h.get hk;obtain⟨B,m,d,rfl,hs⟩:=vJ h1;exact⟨b,o,B,m,d,rfl,⟨h2.2 0 _ rfl,h2.2 1 _ rfl⟩,hs⟩
theorem Sl.iw{l:List aJ}{x:aJ}(h:Sl aJ w M A n c l)(hk:l[k]?=some x):∃b o B m d,A=some ⟨b,o,none⟩/\(w.cell? ⟨b,o+k*13,none⟩=some (.string x.1)/\w.cell? ⟨b,o+k*13+1,none⟩=some (.int .i64 x.2.1)/\w.cell? ⟨b,o+k*13+2,none⟩=some (.int .i64 x.2.2.1)/\w.cell? ⟨b,o+k*13+3,none⟩=some (.int .i64 x.2.2.2.1)/\w.cell? ⟨b,o+k*13+4,none⟩=some (.bool x.2.2.2.2.1)/\w.cell? ⟨b,o+k*13+5,none⟩=some (.bool x.2.2.2.2.2.1))/\
 (w.cell? ⟨b,o+k*13+6,none⟩=some (.int .i64 (au x).kind)/\w.cell? ⟨b,o+k*13+7,none⟩=some (.string (au x).name)/\w.cell? ⟨b,o+k*13+8,none⟩=some (.int .i64 (au x).n)/\w.cell? ⟨b,o+k*13+9,none⟩=some (.int .i64 (au x).d)/\w.cell? ⟨b,o+k*13+10,none⟩=some (.slice B m d))/\
 (w.cell? ⟨b,o+k*13+11,none⟩=some (.string x.2.2.2.2.2.2.2.1)/\w.cell? ⟨b,o+k*13+12,none⟩=some (.int .i64 x.2.2.2.2.2.2.2.2))/\
 (i64 x.2.1/\i64 x.2.2.1/\i64 x.2.2.2.1/\i64 x.2.2.2.2.2.2.2.2)/\(i64 (au x).kind/\i64 (au x).n/\i64 (au x).d)/\Sl aU w M B m d (au x).l:=by
 obtain⟨b,o,es,rfl,h1,h2⟩:=h.get hk;obtain⟨B,m,d,rfl,hi,hj,hs⟩:=jg h1;exact⟨b,o,B,m,d,rfl,⟨h2.2 0 _ rfl,h2.2 1 _ rfl,h2.2 2 _ rfl,h2.2 3 _ rfl,h2.2 4 _ rfl,h2.2 5 _ rfl⟩,⟨h2.2 6 _ rfl,h2.2 7 _ rfl,h2.2 8 _ rfl,h2.2 9 _ rfl,h2.2 10 _ rfl⟩,⟨h2.2 11 _ rfl,h2.2 12 _ rfl⟩,hi,hj,hs⟩
structure dG(w:World)(M:List Nat)(r:aS)(s1 s2 s3 s4 s5 s6 s7:dK):Prop where
 aT:Sl bT w M s1.A s1.n s1.c r.aT
 bonus:Sl bW w M s2.A s2.n s2.c r.bonus
 malus:Sl bW w M s3.A s3.n s3.c r.malus
 ties:Sl dA w M s4.A s4.n s4.c r.ties
 rounds:Sl aJ w M s5.A s5.n s5.c r.rounds
 prizes:Sl Int w M s6.A s6.n s6.c r.prizes
 points:Sl Int w M s7.A s7.n s7.c r.points
 best:i64 r.best
end
section
open Go.RowKit Go.Shelf
structure NK(x:Nat)(dp:Nat)(p q d:Nat):Prop where
 few:p+x<=256->q=p+x/\d=dp
 many:256<p+x->256<q
 lo:p<=q
 hi:q<=p+x
 dep:d<=x
structure KB(b:Nat)(w w':World):Prop where
 k:Keeps [b] w w'
 bl:Below b w w'
theorem KB.trans{b:Nat}{w w' w'':World}(h:KB b w w')(g:KB b w' w''):KB b w w'':=⟨h.k.trans g.k,h.bl.trans g.bl⟩
theorem KB.refl(b:Nat)(w:World):KB b w w:=⟨Keeps.refl _ _,Below.refl _ _⟩
theorem QY{w w':World}{c o:Nat}{v:Value}(k:Keeps [b] w w')(h:w.cell? ⟨c,o,none⟩=some v)(hc:¬c=b):w'.cell? ⟨c,o,none⟩=some v:=k.cell (by simpa using hc) h
set_option maxHeartbeats 8000000 in
theorem size_any:∀(x:aU) {A:Option Addr}{m c b p:Nat}{w:World},Sl aU w [b] A m c x.l->w.cell? ⟨b,0,none⟩=some (.int .i64 (p:Int))->w.frozen? ⟨b,0,none⟩=false->p+nodes x<=100000->
 Calls prog 200 #[.agg #[.int .i64 x.kind,.string x.name,.int .i64 x.n,.int .i64 x.d,.slice A m c],.pointer (some ⟨b,0,none⟩)] w fun e w'=>∃d q:Nat,e=.returned (.int .i64 (d:Int))/\w'.cell? ⟨b,0,none⟩=some (.int .i64 (q:Int))/\w'.frozen? ⟨b,0,none⟩=false/\KB b w w'/\NK (nodes x) (iM x) p q d:=by
 intro x
 induction x using iY with
 |_ x ih=>
 intro A m c b p w hs hc hf hp;refine wid ?_;have hsm:=hs.small;have HM:=Hd hs.len;have hN:=gV x;have hD:=IQ x;have hbw:=World.block_lt_of_cell? w _ hc;simp only at hbw;obtain⟨l,hxl⟩:=aC x.l;rw[hxl]at hs HM hN hD ih;obtain⟨X,hX⟩:=aC (nodes x);obtain⟨D,hDD⟩:=aC (iM x);obtain⟨kd,hkd⟩:=aC x.kind;obtain⟨nm,hnm⟩:=aC x.name;obtain⟨xn,hxn⟩:=aC x.n;obtain⟨xd,hxd⟩:=aC x.d;rw[hX]at hN hp;rw[hDD]at hD;rw[hkd,hnm,hxn,hxd,hX,hDD];have HN:=Hd2 hN hD;have IH:=Hd ih;clear hxl hX hDD hkd hnm hxn hxd ih hN hD;obtain⟨p1,hp1⟩:=aC (p+1);have hw1:IntKind.i64.wrap ((p:Int)+1)=(p1:Int):=by rw[IntKind.wrap_i64];omega
 have HP:=Hd2 hp1 hp;obtain⟨W1,hW1,F1⟩:=nam ((Fr.nil w).a w.heap.size [.int .i64 kd,.string nm,.int .i64 xn,.int .i64 xd,.slice A m c] 87);have hx4:=F1.aQ 0 4;have c1:W1.cell? ⟨b,0,none⟩=some (.int .i64 (p:Int)):=(F1.bl.cell (p:=⟨b,0,none⟩) hbw).trans hc;have f1:W1.frozen? ⟨b,0,none⟩=false:=(F1.bl.frozen (p:=⟨b,0,none⟩) hbw).trans hf;obtain⟨W2,hW2⟩:=aC (W1.setCell ⟨b,0,none⟩ (.int .i64 (p1:Int)));have c2:W2.cell? ⟨b,0,none⟩=some (.int .i64 (p1:Int)):=by rw[<-hW2];exact cZ c1
 have f2:W2.frozen? ⟨b,0,none⟩=false:=by rw[<-hW2];simp[go_sem,f1]
 have k2:KB b W1 W2:=by rw[<-hW2];exact⟨(Keeps.refl _ _).setCell (p:=⟨b,0,none⟩) (.inl (by simp)) _,(Below.refl b W1).setCell (p:=⟨b,0,none⟩) (Nat.le_refl b) _⟩
 have x2:=QY k2.k hx4 (by omega);have kw:KB b w W2:=KB.trans ⟨Keeps.of_below F1.bl _,F1.bl.mono (by omega)⟩ k2;by_cases hq:256<p1
 ·have hq2:(256:Int)<(p1:Int):=by omega
  have HR:=Hd (show NK X D p p1 0 from⟨fun h=>by have:=HN.out.1;omega,fun _=>hq,by omega,by have:=HN.out.1;omega,by omega⟩);have HW:=fB c2 f2 kw;clear hp1 hp k2 kw hs HN;refine ent func200 rfl ntmps200 ?_;gi_wp2;go_ret;exact⟨0,p1,rfl,HW.out.1,HW.out.2.1,HW.out.2.2,HR.out⟩
 ·have hq2:¬(256:Int)<(p1:Int):=by omega
  have H:=Hd (hs.keep kw.k);have HKW:=Hd kw;have Un:=h_ (KB.refl b W2) c2 f2 (show NK (dh (l.take 0)) (fO (l.take 0)) p1 p1 0 from⟨fun h=>by simp[dh,fO],fun h=>by simp[dh]at h;omega,Nat.le_refl _,by omega,by omega⟩);have Zy:=Hd x2;clear hp1 hp k2 kw hs hf hc;refine ent func200 rfl ntmps200 ?_;gi_wp2;gi_loopw[4,19] (fun v0 i wr=>∃k dd q:Nat,k<=m/\v0=.int .i64 (dd:Int)/\i=.int .i64 k/\Hid (KB b W2 wr/\wr.cell? ⟨b,0,none⟩=some (.int .i64 (q:Int))/\wr.frozen? ⟨b,0,none⟩=false/\NK (dh (l.take k)) (fO (l.take k)) p1 q dd)) (fun _ i _=>m-(intOf i).toNat);case atStart=>exact⟨0,0,p1,Nat.zero_le _,rfl,rfl,Un⟩
  case round=>
   obtain⟨k,dd,q,hk,rfl,rfl,hS⟩:=hrel;by_cases hlt:k<m
   ·obtain⟨y,hy⟩:=dW l k (by rw[HM.out];exact hlt);obtain⟨bb,o,B,n',d',rfl,⟨h0,h1,h2,h3,h4⟩,-,hys⟩:=(H.out.keep hS.out.1.k).qQ hy;obtain⟨V,hV⟩:=aC (wr.alloc (.cells #[.int .i64 y.kind,.string y.name,.int .i64 y.n,.int .i64 y.d,.slice B n' d'] 87));have hbr:b<wr.heap.size:=World.block_lt_of_cell? wr _ hS.out.2.1;have kV:KB b wr V:=by rw[<-hV];exact⟨(Keeps.refl _ _).alloc _,(Below.refl _ _).alloc (Nat.le_of_lt hbr) _⟩
    have g0:V.cell? ⟨wr.heap.size,0,none⟩=some (.int .i64 y.kind):=by rw[<-hV];simp[go_sem]
    have g1:V.cell? ⟨wr.heap.size,1,none⟩=some (.string y.name):=by rw[<-hV];simp[go_sem]
    have g2:V.cell? ⟨wr.heap.size,2,none⟩=some (.int .i64 y.n):=by rw[<-hV];simp[go_sem]
    have g3:V.cell? ⟨wr.heap.size,3,none⟩=some (.int .i64 y.d):=by rw[<-hV];simp[go_sem]
    have g4:V.cell? ⟨wr.heap.size,4,none⟩=some (.slice B n' d'):=by rw[<-hV];simp[go_sem]
    have cV:V.cell? ⟨b,0,none⟩=some (.int .i64 (q:Int)):=by rw[<-hV];exact Iz _ hS.out.2.1
    have fV:V.frozen? ⟨b,0,none⟩=false:=by rw[<-hV];exact IB _ hS.out.2.1 hS.out.2.2.1
    have hmem:=List.mem_of_getElem? hy;have hT:=Cb hy;have hDT:=Cc hy;have hle:=vI l (k+1);have hz:=hS.out.2.2.2;have yK:q+nodes y<=100000:=by have h1:=HP.out.1;have h2:=HP.out.2;have h3:=HN.out.1;have h4:=hz.hi;omega
    have HC:=Hd (IH.out y hmem (hys.keep kV.k) cV fV yK);have hdd:dd<=100000:=by have h1:=HP.out.2;have h3:=HN.out.1;have h4:=hz.dep;omega
    obtain⟨Y,hY⟩:=aC (nodes y);obtain⟨E,hE⟩:=aC (iM y);rw[hY,hE]at HC;rw[hY]at hT;rw[hE]at hDT;have HZ:=h_ hT hDT hz kV;clear hbr hy hmem hT hDT hle hz yK hys hY hE kV cV fV
    gi_wp2_with (first
     |(refine Cl 200 HC.out ?_;rintro e w2 ⟨d2,q2,rfl,hc2,hf2,hk2,hz2⟩;obtain⟨mx,hmx⟩:=aC (max dd d2);have HF:=Hd (show KB b W2 w2/\w2.cell? ⟨b,0,none⟩=some (.int .i64 (q2:Int))/\w2.frozen? ⟨b,0,none⟩=false/\NK (dh (l.take (k+1))) (fO (l.take (k+1))) p1 q2 mx from⟨hS.out.1.trans (HZ.out.2.2.2.trans hk2),hc2,hf2,by
        obtain⟨t1,t2,z1,-⟩:=HZ.out;rw[t1,t2];subst hmx;exact⟨fun h=>by have a:=z1.few (by omega);have c:=hz2.few (by omega);omega,fun h=>by
         by_cases g:p1+dh (l.take k)<=256;·have a:=z1.few g;exact hz2.many (by omega)
         have a:=z1.many (by omega);have:=hz2.lo;omega,by have:=z1.lo;have:=hz2.lo;omega,by have:=z1.hi;have:=hz2.hi;omega,by have:=z1.dep;have:=hz2.dep;omega⟩⟩)
       have HMX:=Hd hmx;clear hc2 hf2 hk2 hz2 hmx)
     |fail)
    exact⟨⟨k+1,mx,q2,by omega,by congr 1;have:=HMX.out;first|omega|(split<;>omega),by go_num,HF⟩,by simp[intOf];omega⟩
   ·have hkm:k=m:=by omega
    clear hk hlt;subst hkm;have hdd:dd<=100000:=by have h1:=HP.out.2;have h3:=HN.out.1;have h4:=hS.out.2.2.2.dep;have:=vI l k;omega
    have hw3:IntKind.i64.wrap ((dd:Int)+1)=((dd+1:Nat):Int):=by rw[IntKind.wrap_i64];omega
    have HR:=Hd (show NK X D p q (dd+1) by have z:=hS.out.2.2.2;rw[List.take_of_length_le (by rw[HM.out];exact Nat.le_refl _)]at z;have h1:=HN.out.1;have h2:=HN.out.2;have h3:=HP.out.1;exact⟨fun h=>by have a:=z.few (by omega);omega,fun h=>z.many (by omega),by have:=z.lo;omega,by have:=z.hi;omega,by have:=z.dep;omega⟩);gi_wp2;go_ret;exact⟨dd+1,q,by first|rfl|simp,hS.out.2.1,hS.out.2.2.1,HKW.out.trans hS.out.1,HR.out⟩
def jA(x:Int×Int):Bool:=decide (x.2<x.1)
def kK(w:World)(b:Nat)(ps:List (Int×Int)):Prop:=∀j x,ps[j]?=some x->w.cell? ⟨b,j*2,none⟩=some (.int .i64 x.1)/\w.cell? ⟨b,j*2+1,none⟩=some (.int .i64 x.2)
theorem kK.go{w w':World}(h:kK w b ps)(hb:Below w.heap.size w w'):kK w' b ps:=fun j x hx=>by have h1:=h j x hx;have hlt:=World.block_lt_of_cell? w _ h1.1;exact⟨(hb.cell (p:=⟨b,j*2,none⟩) hlt).trans h1.1,(hb.cell (p:=⟨b,j*2+1,none⟩) hlt).trans h1.2⟩
theorem Gf(x y:Int)(w:World):CB 210 #[.agg #[.int .i64 x,.int .i64 y]] (.bool (jA (x,y))) w:=by
 refine wid ?_;obtain⟨W1,hW1,F1⟩:=nam ((Fr.nil w).a w.heap.size [.int .i64 x,.int .i64 y] 243);refine op1 F1 ?_;intros;have F:=Hd F1;clear F1;cases h:jA (x,y)
 ·have h2:¬y<x:=by simpa[jA]using h
  exact ae1
 have h2:y<x:=by simpa[jA]using h
 exact ae1
theorem NM(b n c:Nat)(ps:List (Int×Int))(w:World)(hn:ps.length=n)(hm:n<=100000)(hp:kK w b ps):
 Calls prog 224 #[.slice (some ⟨b,0,none⟩) n c,.func (.func 210) #[] #[]] w fun e w'=>(∃i:Int,e=.returned (.int .i64 i)/\decide (0<=i)=ps.any jA)/\Below w.heap.size w w':=by
 refine wid ?_;have H:=Hd hp;have eg:=enters_of (P:=prog) func210 (by kernel_rfl) rfl;clear hp;refine ent func224 rfl ntmps224 ?_;gi_wp2;gi_loopw[8] (fun i wr=>∃k:Nat,k<=n/\i=.int .i64 k/\Hid (Below w.heap.size w wr)/\Hid ((ps.drop k).any jA=ps.any jA)) (fun i _=>n-(intOf i).toNat);case atStart=>exact⟨0,Nat.zero_le _,rfl,Hd (Below.refl _ _),Hd rfl⟩
 case round=>
  obtain⟨k,hk,rfl,hB,hr⟩:=hrel;by_cases hlt:k<n
  ·obtain⟨x,hx⟩:=dW ps k (by omega);obtain⟨x1,x2⟩:=x;have hc:=(H.out.go hB.out) k _ hx;obtain⟨h0,h1⟩:=hc;have hd:ps.drop k=(x1,x2)::ps.drop (k+1):=by
    obtain⟨hl,e⟩:=List.getElem?_eq_some_iff.1 hx;rw[<-e];exact List.drop_eq_getElem_cons hl
   have hr2:=hr.out;rw[hd,List.any_cons]at hr2;obtain⟨o,ho⟩:=aC (jA (x1,x2));rw[ho]at hr2;have HO:=Hd ho;have HR:=Hd hr2;clear hr2 ho hd hx;cases o
   ·gi_wp2_with (first
      |(refine Cl 210 (Gf x1 x2 _) ?_;rintro e w1 ⟨rfl,hb1⟩;rw[HO.out];have HB:=Hd (hB.out.trans (hb1.mono hB.out.size));clear hb1)
      |fail)
    exact⟨⟨k+1,by omega,by go_num,HB,Hd (by have:=HR.out;rwa [Bool.false_or]at this)⟩,by simp[intOf];omega⟩
   gi_wp2_with (first
    |(refine Cl 210 (Gf x1 x2 _) ?_;rintro e w1 ⟨rfl,hb1⟩;rw[HO.out];have HB:=Hd (hB.out.trans (hb1.mono hB.out.size));clear hb1)
    |fail)
   go_ret;exact⟨⟨_,rfl,by rw[<-HR.out,Bool.true_or];simp⟩,HB.out⟩
  ·have hr2:=hr.out;rw[List.drop_of_length_le (by omega)]at hr2;have HR:=Hd hr2;clear hr2;gi_wp2;go_ret;exact⟨⟨_,rfl,by rw[<-HR.out];rfl⟩,hB.out⟩
theorem EY(b n c:Nat)(ps:List (Int×Int))(w:World)(hn:ps.length=n)(hm:n<=100000)(hp:kK w b ps):
 CB 209 #[.slice (some ⟨b,0,none⟩) n c,.func (.func 210) #[] #[]] (.bool (ps.any jA)) w:=by
 refine wid ?_;have HC:=Hd (NM b n c ps w hn hm hp);clear hp;refine ent func209 rfl ntmps209 ?_
 gi_wp2_with (first
  |(refine Cl 224 HC.out ?_;rintro e w1 ⟨⟨i,rfl,hi⟩,hb1⟩;have HI:=Hd2 hi hb1;clear hi hb1)
  |fail)
 go_ret;exact⟨by rw[<-HI.out.1];first|rfl|simp,HI.out.2⟩
theorem lg(b n c:Nat)(ps:List (Int×Int))(w:World)(hn:ps.length=n)(hm:n<=100000)(hp:kK w b ps):
 CB 199 #[.slice (some ⟨b,0,none⟩) n c] (.bool (!(ps.any jA))) w:=by
 refine wid ?_;have HC:=Hd (EY b n c ps w hn hm hp);clear hp;refine ent func199 rfl ntmps199 ?_
 gi_wp2_with (first
  |(refine Cl 209 HC.out ?_;rintro e w1 ⟨rfl,hb1⟩;have HI:=Hd hb1;clear hb1)
  |fail)
 go_ret;exact⟨by first|rfl|simp,HI.out⟩
theorem Fr.only{w:World}{L':List (Nat×List Value)}(h:Fr w W L)(hs:∀x,x∈L'->x∈L):Fr w W L':=⟨h.bl,fun b vs hm=>h.at_ b vs (hs _ hm),fun b vs hm=>h.lt b vs (hs _ hm),fun b vs hm=>h.ge b vs (hs _ hm)⟩
theorem Fr.hd{w:World}{x:Nat×List Value}(h:Fr w W L)(hx:L[0]?=some x:=by exact rfl):Fr w W [x]:=h.only fun y hy=>by rw[List.mem_singleton]at hy;subst hy;exact List.mem_of_getElem? hx
theorem dG.go{w w':World}{M:List Nat}{r:aS}{s1 s2 s3 s4 s5 s6 s7:dK}(h:dG w M r s1 s2 s3 s4 s5 s6 s7)(hb:Below w.heap.size w w'):dG w' M r s1 s2 s3 s4 s5 s6 s7:=⟨h.aT.go hb,h.bonus.go hb,h.malus.go hb,h.ties.go hb,h.rounds.go hb,h.prizes.go hb,h.points.go hb,h.best⟩
abbrev aV(r:aS)(s1 s2 s3 s4 s5 s6 s7:dK):List Value:= [.string r.name,.slice s1.A s1.n s1.c,.slice s2.A s2.n s2.c,.slice s3.A s3.n s3.c,.slice s4.A s4.n s4.c,.slice s5.A s5.n s5.c,.slice s6.A s6.n s6.c,.slice s7.A s7.n s7.c,.int .i64 r.best]
def Uo(ps:List (Int×Int)):List Value:=ps.flatMap fun x=> [Value.int .i64 x.1,Value.int .i64 x.2]
theorem Ci:∀(ps:List (Int×Int)) (j:Nat) (x:Int×Int),ps[j]?=some x->(Uo ps)[j*2]?=some (.int .i64 x.1)/\(Uo ps)[j*2+1]?=some (.int .i64 x.2)
 |y::ps,0,x,h=>by simp at h;subst h;exact⟨rfl,rfl⟩
 |y::ps,j+1,x,h=>by
  have ih:=Ci ps j x (by simpa using h);have e:(j+1)*2=j*2+1+1:=by omega
  rw[e];exact⟨ih.1,ih.2⟩
theorem w_(h:∀i u,(Uo ps)[i]?=some u->W.cell? ⟨b,i,none⟩=some u):kK W b ps:=fun j x hx=>⟨h _ _ (Ci ps j x hx).1,h _ _ (Ci ps j x hx).2⟩
def sJ(r:aS):List (Int×Int):= [((r.aT.length:Nat),64),((r.bonus.length:Nat),64),((r.malus.length:Nat),64),((r.ties.length:Nat),16),((r.rounds.length:Nat),8),((r.prizes.length:Nat),64),((r.points.length:Nat),64)]
def jY(t:dA):Bool:= !jA (((t.2.length:Nat):Int),32)
def jI(y:aJ):Bool:=decide (nodes (au y)<=256/\iM (au y)<=16)
def fD(r:aS):Bool:= !((sJ r).any jA)&&r.ties.all jY&&r.rounds.all jI
theorem iC{α:Type}{P:α->Bool}{l:List α}{k:Nat}{x:α}(h:l[k]?=some x):(l.drop k).all P=(P x&&(l.drop (k+1)).all P):=by obtain⟨hl,e⟩:=List.getElem?_eq_some_iff.1 h;rw[List.drop_eq_getElem_cons hl,e,List.all_cons]
theorem jr{α:Type}{P:α->Bool}{l:List α}{k:Nat}(h:l.length<=k):(l.drop k).all P=true:=by rw[List.drop_of_length_le h];rfl
theorem Fr.kb{w V:World}(h:Fr w V L)(k:KB b V W)(hb:w.heap.size<=b)(hL:∀c vs,(c,vs)∈L->c≠b):Fr w W L:=⟨h.bl.trans (k.bl.mono hb),fun c vs hm i u hu=>by have h1:=h.at_ c vs hm i u hu;have h2:=k.k.block c (h.lt c vs hm) (by simpa using hL c vs hm);exact⟨by rw[<-h1.1];simp only[World.cell?,h2],by rw[<-h1.2];simp only[World.frozen?,h2]⟩,fun c vs hm=>Nat.lt_of_lt_of_le (h.lt c vs hm) k.k.size,h.ge⟩
theorem Gg{y:aJ}{q d:Nat}(h:NK (nodes (au y)) (iM (au y)) 0 q d): [((q:Int),(256:Int)),((d:Int),16)].any jA= !jI y:=by
 unfold jI jA;by_cases g:nodes (au y)<=256
 ·obtain⟨rfl,rfl⟩:=h.few (by omega);simp only[List.any_cons,List.any_nil,Bool.or_false];by_cases e:iM (au y)<=16;·rw[decide_eq_false (by omega),decide_eq_false (by omega),decide_eq_true ⟨g,e⟩];rfl
  have e2:decide (nodes (au y)<=256/\iM (au y)<=16)=false:=decide_eq_false (fun x=>e x.2);rw[e2,decide_eq_false (by omega),decide_eq_true (by omega)];rfl
 have:=h.many (by omega);simp only[List.any_cons,List.any_nil,Bool.or_false];have e2:decide (nodes (au y)<=256/\iM (au y)<=16)=false:=decide_eq_false (fun x=>g x.1);rw[e2,decide_eq_true (show(256:Int)<(q:Int) by omega)];rfl
set_option maxHeartbeats 16000000 in
theorem Gh{M:List Nat}{r:aS}{s1 s2 s3 s4 s5 s6 s7:dK}{w:World}(hr:dG w M r s1 s2 s3 s4 s5 s6 s7)(hf:∀y,y∈r.rounds->nodes (au y)<=1000):
 CB 167 #[.agg (aV r s1 s2 s3 s4 s5 s6 s7).toArray] (.bool (fD r)) w:=by
 refine wid ?_;obtain⟨A4,q4,c4⟩:=s4;obtain⟨A5,q5,c5⟩:=s5;have xg:Sl dA w M A4 q4 c4 r.ties:=hr.ties;have xq:Sl aJ w M A5 q5 c5 r.rounds:=hr.rounds;have n1:=hr.aT.len;have n2:=hr.bonus.len;have n3:=hr.malus.len;have n4:=xg.len;have n5:=xq.len;have n6:=hr.prizes.len;have n7:=hr.points.len;have m4:=xg.small;have m5:=xq.small;have H:=fB xg xq hf;have HL:=Hd2 n4 n5;obtain⟨W1,hW1,F1⟩:=nam ((Fr.nil w).a w.heap.size (aV r s1 s2 s3 ⟨A4,q4,c4⟩ ⟨A5,q5,c5⟩ s6 s7) 52);obtain⟨W2,hW2,hbW2,F2⟩:=fP (w:=W1) ((F1).a W1.heap.size [.int .i64 (s1.n:Int),.int .i64 64,.int .i64 (s2.n:Int),.int .i64 64,.int .i64 (s3.n:Int),.int .i64 64,.int .i64 (q4:Int),.int .i64 16,.int .i64 (q5:Int),.int .i64 8,.int .i64 (s6.n:Int),.int .i64 64,.int .i64 (s7.n:Int),.int .i64 64] 243);have hp7:kK W2 W1.heap.size (sJ r):=by refine w_ ?_;unfold sJ;rw[n1,n2,n3,n4,n5,n6,n7];exact F2.nth 1
 obtain⟨o7,ho7⟩:=aC ((sJ r).any jA);have HP:=Hd2 hp7 ho7;have HS:=Hd (show fD r=(!o7&&r.ties.all jY&&r.rounds.all jI) by unfold fD;rw[ho7]);have HF2:=Hd (F2.only (L':= [(w.heap.size,aV r s1 s2 s3 ⟨A4,q4,c4⟩ ⟨A5,q5,c5⟩ s6 s7)]) (fun x hx=>by simp at hx;simp[hx]));refine op1 F1 ?_;intros;clear xg xq hp7 ho7 n1 n2 n3 n4 n5 n6 n7 hr hf F1 F2 hbW2;cases o7
 ·refine ent func167 rfl ntmps167 ?_
  gi_wp2_with (first
   |(refine Cl 199 (lg _ 7 7 _ _ rfl (by omega) HP.out.1) ?_;rintro e w2 ⟨rfl,hb⟩;rw[HP.out.2];have F3:=Hd (HF2.out.go hb);have hfo:=F3.out;refine op1 hfo ?_;intros;clear hb hfo)
   |fail)
  gi_loopw[43] (fun i wr=>∃k:Nat,k<=q4/\i=.int .i64 k/\Hid (Fr w wr [(w.heap.size,aV r s1 s2 s3 ⟨A4,q4,c4⟩ ⟨A5,q5,c5⟩ s6 s7)])/\Hid ((r.ties.drop k).all jY=r.ties.all jY)) (fun i _=>q4-(intOf i).toNat);case atStart=>exact⟨0,Nat.zero_le _,rfl,F3,Hd rfl⟩
  case round=>
   obtain⟨k,hk,rfl,hF,ht⟩:=hrel;have hfo:=hF.out;refine op1 hfo ?_;intros;clear hfo;by_cases hlt:k<q4
   ·obtain⟨t,htk⟩:=dW r.ties k (by rw[HL.out.1];exact hlt);have hstep:=iC (P:=jY) htk;obtain⟨bb,o,B,m',d',rfl,⟨h0,h1⟩,hks⟩:=(H.out.1.go hF.out.bl).n_ htk;obtain⟨ft,hft⟩:=aC (jY t);rw[hft,ht.out]at hstep;obtain⟨V1,hV1,dD,G1⟩:=fP (w:=wr) ((hF.out).a wr.heap.size [.string t.1,.slice B m' d'] 169);obtain⟨V2,hV2,oL,G2⟩:=fP (w:=V1) ((G1).a V1.heap.size [.int .i64 (m':Int),.int .i64 32] 243);have hany: [((m':Int),(32:Int))].any jA= !ft:=by rw[<-hft];unfold jY;rw[hks.len];simp
    have Yg:=Hd2 (show kK V2 V1.heap.size [((m':Int),(32:Int))]from w_ (G2.nth 2)) hany;have G3:=Hd (G2.hd);refine op1 G1 ?_;intros;have HST:=Hd hstep;clear htk hstep hks hft hany G1 G2 dD oL;cases ft
    ·have HR:=Hd (show fD r=false by rw[HS.out,HST.out];simp)
     gi_wp2_with (first
      |(refine Cl 199 (lg _ 1 1 _ _ rfl (by omega) Yg.out.1) ?_;rintro e w4 ⟨rfl,hb⟩;rw[Yg.out.2];have F4:=Hd (G3.out.go hb);clear hb)
      |fail)
     go_ret;exact⟨by rw[HR.out];first|rfl|simp,F4.out.bl⟩
    have HT2:=Hd (show(r.ties.drop (k+1)).all jY=r.ties.all jY by rw[HST.out];simp)
    gi_wp2_with (first
     |(refine Cl 199 (lg _ 1 1 _ _ rfl (by omega) Yg.out.1) ?_;rintro e w4 ⟨rfl,hb⟩;rw[Yg.out.2];have F4:=Hd (G3.out.go hb);clear hb)
     |fail)
    exact⟨⟨k+1,by omega,by go_num,F4,HT2⟩,by simp[intOf];omega⟩
   ·have HT3:=Hd (show fD r=r.rounds.all jI by
      rw[HS.out,<-ht.out,jr (by rw[HL.out.1];omega)];rfl)
    have hk4:q4=k:=by omega
    clear hk hlt;subst hk4;gi_wp2;gi_loopw[58] (fun i wr=>∃k:Nat,k<=q5/\i=.int .i64 k/\Hid (Fr w wr [(w.heap.size,aV r s1 s2 s3 ⟨A4,q4,c4⟩ ⟨A5,q5,c5⟩ s6 s7)])/\Hid ((r.rounds.drop k).all jI=r.rounds.all jI)) (fun i _=>q5-(intOf i).toNat);case atStart=>exact⟨0,Nat.zero_le _,rfl,hF,Hd rfl⟩
    case round=>
     obtain⟨k,hk,rfl,hF5,hq⟩:=hrel;have hfo:=hF5.out;refine op1 hfo ?_;intros;clear hfo;by_cases hlt:k<q5
     ·obtain⟨y,hyk⟩:=dW r.rounds k (by rw[HL.out.2];exact hlt);have hstep:=iC (P:=jI) hyk;obtain⟨bb,o,B,m',d',rfl,⟨h0,h1,h2,h3,h4,h5⟩,⟨h6,h7,h8,h9,h10⟩,⟨h11,h12⟩,-,-,hys⟩:=(H.out.2.1.go hF5.out.bl).iw hyk;obtain⟨ft,hft⟩:=aC (jI y);rw[hft,hq.out]at hstep;obtain⟨V1,hV1,dD,G1⟩:=fP (w:=wr) ((hF5.out).a wr.heap.size [.string y.1,.int .i64 y.2.1,.int .i64 y.2.2.1,.int .i64 y.2.2.2.1,.bool y.2.2.2.2.1,.bool y.2.2.2.2.2.1,.int .i64 (au y).kind,.string (au y).name,.int .i64 (au y).n,.int .i64 (au y).d,.slice B m' d',.string y.2.2.2.2.2.2.2.1,.int .i64 y.2.2.2.2.2.2.2.2] 89);obtain⟨V2,hV2,oL,G2⟩:=fP (w:=V1) ((G1).a0 V1.heap.size 3);have hwb:wr.heap.size<=V1.heap.size:=dD.size;have hc2:=G2.aQ 2 0;have hf2:=G2.zN 2 0;obtain⟨U,hU⟩:=aC (V2.setCell ⟨V1.heap.size,0,none⟩ (.int .i64 0));have kU:KB V1.heap.size V2 U:=by rw[<-hU];exact⟨(Keeps.refl _ _).setCell (p:=⟨V1.heap.size,0,none⟩) (.inl (by simp)) _,(Below.refl _ V2).setCell (p:=⟨V1.heap.size,0,none⟩) (Nat.le_refl _) _⟩
      have hcell:U.cell? ⟨V1.heap.size,0,none⟩=some (.int .i64 0):=by rw[<-hU];exact cZ (G2.aQ 2 0)
      have hfr:U.frozen? ⟨V1.heap.size,0,none⟩=false:=by rw[<-hU];simp[go_sem,G2.zN 2 0]
      have hsE:Sl aU U [V1.heap.size] B m' d' (au y).l:=((((hys.less (M':= []) (fun k hk=>by cases hk)).more hwb).go dD).go oL).keep kU.k;have HCS:=Hd (size_any (au y) (p:=0) hsE hcell hfr (by have:=H.out.2.2 y (List.mem_of_getElem? hyk);omega));have hlt1:w.heap.size<V1.heap.size:=Nat.lt_of_lt_of_le (hF5.out.mJ 0) hwb;have G3:=Hd2 (G2.hd.kb kU (by omega) (fun c vs hm=>by simp at hm;omega)) (And.intro (G2.gen 2) hlt1);have G2U:Fr w U [(wr.heap.size,_)]:=(Fr.only G2 (L':= [(wr.heap.size,_)]) (fun x hx=>by rw[List.mem_singleton]at hx;subst hx;exact List.mem_of_getElem? (i:=1) rfl)).kb kU (by omega) (fun c vs hm=>by rw[List.mem_singleton]at hm;obtain⟨rfl,-⟩:=Prod.mk.inj hm;have:wr.heap.size<V1.heap.size:=(G1.mJ 1);omega);have HST:=Hd hstep;have HFT:=Hd hft;have HWB:=Hd hwb;refine op1 G2U ?_;intros;clear hyk hstep hys hft G1 G2 G2U kU dD oL hwb hfr hsE hlt1;cases ft
      ·have HR:=Hd (show fD r=false by rw[HT3.out,HST.out];simp)
       gi_wp2_with (first
       |(refine Cl 199 (lg _ 2 2 _ _ rfl (by omega) HQ.out.1) ?_;rintro e w4 ⟨rfl,hb⟩;rw[HQ.out.2];have F4:=Hd (HQF.out.go hb);clear hb)
       |(refine Cl 200 HCS.out ?_;rintro e w3 ⟨d3,q3,rfl,hc3,hf3,hk3,hz3⟩;have G5:=G3.out.1.kb hk3 G3.out.2.1 (fun c vs hm=>by simp at hm;have:=G3.out.2.2;omega);obtain⟨V3,JM,Yh,G6⟩:=fP (w:=w3) ((G5).a w3.heap.size [.int .i64 (q3:Int),.int .i64 256,.int .i64 (d3:Int),.int .i64 16] 243);have hany:=Gg hz3;rw[HFT.out]at hany;have HQ:=Hd2 (show kK V3 w3.heap.size [((q3:Int),(256:Int)),((d3:Int),16)]from w_ (G6.nth 1)) hany;have HQF:=Hd G6.hd;clear hk3 hz3 hf3 hany G5 G6 Yh)
       |fail)
       go_ret;exact⟨by rw[HR.out];first|rfl|simp,F4.out.bl⟩
      have HT2:=Hd (show(r.rounds.drop (k+1)).all jI=r.rounds.all jI by rw[HST.out];simp)
      gi_wp2_with (first
      |(refine Cl 199 (lg _ 2 2 _ _ rfl (by omega) HQ.out.1) ?_;rintro e w4 ⟨rfl,hb⟩;rw[HQ.out.2];have F4:=Hd (HQF.out.go hb);clear hb)
      |(refine Cl 200 HCS.out ?_;rintro e w3 ⟨d3,q3,rfl,hc3,hf3,hk3,hz3⟩;have G5:=G3.out.1.kb hk3 G3.out.2.1 (fun c vs hm=>by simp at hm;have:=G3.out.2.2;omega);obtain⟨V3,JM,Yh,G6⟩:=fP (w:=w3) ((G5).a w3.heap.size [.int .i64 (q3:Int),.int .i64 256,.int .i64 (d3:Int),.int .i64 16] 243);have hany:=Gg hz3;rw[HFT.out]at hany;have HQ:=Hd2 (show kK V3 w3.heap.size [((q3:Int),(256:Int)),((d3:Int),16)]from w_ (G6.nth 1)) hany;have HQF:=Hd G6.hd;clear hk3 hz3 hf3 hany G5 G6 Yh)
      |fail)
      exact⟨⟨k+1,by omega,by go_num,F4,HT2⟩,by simp[intOf];omega⟩
     ·have HR:=Hd (show fD r=true by rw[HT3.out,<-hq.out,jr (by rw[HL.out.2];omega)]);gi_wp2;go_ret;exact⟨by rw[HR.out];first|rfl|simp,hF5.out.bl⟩
 ·have HR:=Hd (show fD r=false by rw[HS.out];rfl);refine ent func167 rfl ntmps167 ?_
  gi_wp2_with (first
   |(refine Cl 199 (lg _ 7 7 _ _ rfl (by omega) HP.out.1) ?_;rintro e w2 ⟨rfl,hb⟩;rw[HP.out.2];have F3:=Hd (HF2.out.go hb);clear hb)
   |fail)
  go_ret;exact⟨by rw[HR.out];first|rfl|simp,F3.out.bl⟩
end
end Go.Proofs.YtefnknhjlejalaaGreatDoor
