/- Lemmas and walks; no statement is proved here. -/
import Derived.Test.YtlcgbfkdnmdigaaGreatDoorM38
set_option linter.unusedVariables false
set_option linter.unusedSimpArgs false
set_option maxRecDepth 20000
set_option maxHeartbeats 6000000
namespace Go.Proofs.YtlcgbfkdnmdigaaGreatDoor
open Go.Proofs.Tryz
theorem aeW{p:Prop}(h:p:=by simp only[iH,Nat.reduceEqDiff,if_true,if_false,reduceIte]<;>rfl):p:=h
theorem afR{p:Prop}(h:p:=by simp only[iH,e0,Nat.reduceEqDiff,if_true,if_false,reduceIte]<;>rfl):p:=h
variable {l:List Oper}{w:World}{i:Nat}{o:Oper}{M:List Nat}{cs:List Value}{b:Int}
section
open Go.RowKit Go.Shelf
theorem Uj{p:Nat->Bool}(i:Nat)(hp:p i=false):∃j,j<=i/\p j=false/\∀k,k<j->p k=true:=by
 induction i using Nat.strongRecOn with
 |_ i ih=>
  by_cases h:∃k,k<i/\p k=false;·obtain⟨k,hk,hpk⟩:=h;obtain⟨j,a,b,c⟩:=ih k hk hpk;exact⟨j,by omega,b,c⟩
  ·refine⟨i,Nat.le_refl _,hp,fun k hk=>?_⟩
   cases e:p k with
   |true=>rfl
   |false=>exact absurd ⟨k,hk,e⟩ h
def aaD(ops:Array Oper):Bool:=(List.range ops.size).all fun i=>((ops[i]?).map fun o=>o.after.all fun e=> !Region.binds .any e||decide (e.on<i)).getD true
def Closed(ops:Array Oper)(D:Nat->Bool):Prop:=∀(k:Nat) (o:Oper),ops[k]?=some o->D k=true->∀e∈o.after,Region.binds .any e=true->D e.on=true
theorem Closed.dep{D:Nat->Bool}(h:Closed l.toArray D){k:Nat}(hk:D k=true)(j:Nat)(hr:((l[k]?).map fun o=>o.after.any fun e=>Region.binds .any e&&e.on==j)=some true:=by kernel_rfl):D j=true:=by
 cases ho:l[k]? with
 |none=>rw[ho]at hr;cases hr
 |some o=>rw[ho]at hr;simp only[Option.map_some,Option.some.injEq,Array.any_eq_true,Bool.and_eq_true,beq_iff_eq]at hr;obtain⟨q,hq,hb,rfl⟩:=hr;exact h k o (by simpa using ho) hk _ (Array.getElem_mem hq) hb
section
variable {F:Fence}{n:Nat}{P:Program}{Q:Exit→Act→World→Prop}
theorem ND{ops:Array Oper}{id:Nat}{a:Act}(hm:P.follows .mixedOrders=true)(hok:aaD ops=true)(Inv:(Nat->Bool)->Act->World->Prop)(h0:Inv (fun _=>false) a w.drew)
 (hstep:∀(i:Nat) (o:Oper),ops[i]?=some o->∀D a W,Inv D a W->D i=false->Closed ops D->(∀e∈o.after,Region.binds .any e=true->D e.on=true)->wpOpIn F n P ops Q i (fun a' w'=>Inv (fun j=>D j||decide (j=i)) a' w') a W)
 (hend:∀D a W,Inv D a W->(∀i,i<ops.size->D i=true)->Q .normal a W):(Code.region id ops true).wpIn F n P Q a w:=by
 refine wpIn_region_any hm ?_;have key:∀(r:Nat) (D:Nat->Bool) (L:Array Bool) (a:Act) (W:World),((List.range ops.size).filter fun i=> !D i).length=r->L.size=ops.size->(∀j,j<ops.size->L.getD j true=D j)->Closed ops D->Inv D a W->wpAnyIn F n P .any ops Q r L a W:=by
  have NC:∀(i:Nat) (o:Oper),ops[i]?=some o->∀e∈o.after,Region.binds .any e=true->e.on<i:=fun i o ho e he hb=>by have h:=List.all_eq_true.1 hok i (List.mem_range.2 (Array.getElem?_eq_some_iff.1 ho).1);rw[ho]at h;simp only[Option.map_some,Option.getD_some,Array.all_eq_true_iff_forall_mem,Bool.or_eq_true,decide_eq_true_eq]at h;exact(h e he).resolve_left (by simp[hb])
  have live:∀(D:Nat->Bool) (L:Array Bool),L.size=ops.size->(∀j,j<ops.size->L.getD j true=D j)->Region.ready .any ops L= []->∀i,i<ops.size->D i=true:=fun D L hs hL hr i hi=>by
   cases e:D i with
   |true=>rfl
   |false=>
    exfalso;obtain⟨j,hj,hd,hlow⟩:=Uj (p:=D) i e;have hjs:j<ops.size:=by omega
    have hm:j∈Region.ready .any ops L:=mem_ready.2 ⟨by rw[hL j hjs,hd],ops[j],Array.getElem?_eq_getElem hjs,fun e he hb=>by
     have h1:=NC j _ (Array.getElem?_eq_getElem hjs) e he hb;have h2:=hL e.on (by omega);rw[hlow _ h1]at h2;have h3:e.on<L.size:=by omega
     simpa[h3]using h2⟩
    rw[hr]at hm;cases hm
  intro r
  induction r with
  |zero=>
   intro D L a W hr hs hL hcl hI;have hall:∀i,i<ops.size->D i=true:=fun i hi=>by have:=List.filter_eq_nil_iff.1 (List.length_eq_zero_iff.1 hr) i (List.mem_range.2 hi);simpa using this
   refine⟨?_,hend D a W hI hall⟩;refine List.eq_nil_iff_forall_not_mem.2 fun j hj=>?_;obtain⟨h1,o,ho,-⟩:=mem_ready.1 hj;have hjs:=(Array.getElem?_eq_some_iff.1 ho).1;rw[hL j hjs,hall j hjs]at h1;cases h1
  |succ r ih=>
   intro D L a W hr hs hL hcl hI;refine⟨fun e=>hend D a W hI (live D L hs hL e),fun i hi=>?_⟩;obtain⟨h1,o,ho,hdp⟩:=mem_ready.1 hi;have his:=(Array.getElem?_eq_some_iff.1 ho).1;have hdi:D i=false:=by rw[<-hL i his];exact h1
   have hdone:∀e∈o.after,Region.binds .any e=true->D e.on=true:=fun e he hb=>by
    have h2:=hdp e he hb;have h3:e.on<ops.size:=by have:=NC i o ho e he hb;omega
    rw[<-hL e.on h3];have h4:e.on<L.size:=by omega
    simpa[h4]using h2
   refine wpOpIn_mono (fun a' w' hI'=>?_) (hstep i o ho D a W hI hdi hcl ?_)
   ·refine ih _ _ a' w' ?_ (by simpa using hs) (fun j hj=>?_) (fun k o' ho' hk e he hb=>?_) hI';·have:=yP (List.nodup_range) (List.mem_range.2 his) hdi;omega
    ·by_cases e:i=j
     ·subst e;have:i<L.size:=by omega
      simp[this]
     rw[getD_set_ne true e,hL j hj];have e2:¬j=i:=fun h=>e h.symm;simp[e2]
    simp only[Bool.or_eq_true,decide_eq_true_eq]at hk |-;rcases hk with hk|rfl;·exact .inl (hcl k o' ho' hk e he hb)
    rw[ho]at ho';cases ho';exact .inl (hdone e he hb)
   ·exact hdone
 refine key ops.size (fun _=>false) _ a _ (by show(List.filter (fun _=>true) _).length=_;rw[List.filter_eq_self.2 (fun _ _=>rfl),List.length_range]) (by simp) (fun j hj=>by simp[hj]) (fun k o ho hk=>by cases hk) h0
theorem jf{D:Nat->Bool}(ho:l.toArray[i]?=some o)(hd:∀e∈o.after,Region.binds .any e=true->D e.on=true)(j:Nat)(h:((l[i]?).map fun o=>o.after.any fun e=>Region.binds .any e&&e.on==j)=some true:=by kernel_rfl):D j=true:=by
 have ho':l[i]?=some o:=by simpa using ho
 rw[ho']at h;simp only[Option.map_some,Option.some.injEq,Array.any_eq_true,Bool.and_eq_true,beq_iff_eq]at h;obtain⟨k,hk,hb,rfl⟩:=h;exact hd _ (Array.getElem_mem hk) hb
theorem gG{a:Act}{W:World}{K:Act->World->Prop}(h:∀K':Act->World->Prop,(∀a' w',K a' w'->K' a' w')->o.wpIn F n P a W K' Q)(ho:l[i]?=some o:=by exact rfl)(hw:Region.wanted o (yielded l.toArray a.tmps)=true:=by exact wy):wpOpIn F n P l.toArray Q i K a W:=by
 unfold Go.wpOpIn;have ho':l.toArray[i]?=some o:=by simpa using ho
 simp only[ho',hw,if_true];exact h K fun _ _ h=>h
end
end
def Y0:aU:=.mk 2 ⟨#[99]⟩ 0 0 []
def Xa:aU:=.mk 8 ⟨#[]⟩ 2 1 [Y0]
def Xb:aU:=.mk 3 ⟨#[]⟩ 0 0 []
def Xc:aU:=.mk 6 ⟨#[]⟩ 0 0 [Xa,Xb]
def Xd:aU:=.mk 4 ⟨#[]⟩ 0 0 []
def O_:aU:=.mk 7 ⟨#[]⟩ 0 0 [Xc,Xd]
def Y1:bT:=(⟨#[99]⟩,0,10,1,3,0,false)
def EW:aJ:=(⟨#[114]⟩,3,1,1,false,false,O_,⟨#[]⟩,-1)
def uX:aS:=⟨⟨#[97]⟩, [Y1], [(⟨#[98]⟩,3,2)], [(⟨#[109]⟩,2,1)], [], [EW], [], [],0⟩
def QJ(m:Int):dS:=⟨[[4,m,5]], [2], [1], []⟩
section
open Go.RowKit Go.Shelf
attribute [local go_sem] Oper.semAt_some
theorem lN{α:Type} [Rep α] (hM:b_ M w)(e:TypeId)(xs:List α)(hn:xs.length<=1000)(h:∀k x,xs[k]?=some x->∃es,Rep.rd w M x es/\∀j u,es[j]?=some u->cs[k*Rep.sz α+j]?=some u):
 Sl α (w.alloc (.cells cs.toArray e)) M (some ⟨w.heap.size,0,none⟩) xs.length xs.length xs:=by
 have hb:Below w.heap.size w (w.alloc (.cells cs.toArray e)):=by exact bel
 refine⟨rfl,Nat.le_refl _,by unfold jG;omega,by omega,.inr ⟨w.heap.size,0,rfl,fun k x hk=>?_⟩⟩;exact aeU
def TI(M:List Nat)(x:aU)(v:Value)(W:World):Prop:=∃A m c,v=.agg #[.int .i64 x.kind,.string x.name,.int .i64 x.n,.int .i64 x.d,.slice A m c]/\(i64 x.kind/\i64 x.n/\i64 x.d)/\Sl aU W M A m c x.l
def QK(M:List Nat)(α:Type) [Rep α] (xs:List α)(v:Value)(W:World):Prop:=∃A,v=.slice A xs.length xs.length/\Sl α W M A xs.length xs.length xs
theorem TI.go{M:List Nat}{x:aU}{v:Value}{W W':World}(h:TI M x v W)(hb:Below W.heap.size W W'):TI M x v W':=by obtain⟨A,m,c,e,hi,hs⟩:=h;exact⟨A,m,c,e,hi,hs.go hb⟩
theorem QK.go{M:List Nat}{α:Type} [kE α] {xs:List α}{v:Value}{W W':World}(h:QK M α xs v W)(hb:Below W.heap.size W W'):QK M α xs v W':=by obtain⟨A,e,hs⟩:=h;exact⟨A,e,hs.go hb⟩
theorem TI.more{M:List Nat}{x:aU}{v:Value}{W:World}{b:Nat}(h:TI M x v W)(hb:W.heap.size<=b):TI (b::M) x v W:=by obtain⟨A,m,c,e,hi,hs⟩:=h;exact⟨A,m,c,e,hi,hs.more hb⟩
theorem QK.more{M:List Nat}{α:Type} [kE α] {xs:List α}{v:Value}{W:World}{b:Nat}(h:QK M α xs v W)(hb:W.heap.size<=b):QK (b::M) α xs v W:=by obtain⟨A,e,hs⟩:=h;exact⟨A,e,hs.more hb⟩
theorem Sl.Es{α:Type} [kE α] (w:World)(M:List Nat):Sl α w M none 0 0 []:=⟨rfl,Nat.le_refl _,by unfold jG;omega,by omega,.inl rfl⟩
theorem TJ(w:World):CB 57 #[] (.agg #[.int .i64 2,.string ⟨#[99]⟩,.int .i64 0,.int .i64 0,.slice none 0 0]) w:=by refine wid ?_;obtain⟨W1,hW1,F1⟩:=dR ((Fr.nil w).a w.heap.size [.int .i64 2,.string ⟨#[99]⟩,.int .i64 0,.int .i64 0,.slice none 0 0] 48);have o1:=aW F1;have F:=Hd F1;have q2:=aN (F1.aQ 0 2);have q3:=aN (F1.aQ 0 3);have q4:=aN (F1.aQ 0 4);clear F1;refine ent func57 rfl ntmps57 ?_;gi_wp2;exact⟨rfl,_,by simp[results,go_sem,o1],rfl,F.out.bl⟩
theorem BM(k:Int)(A:Option Addr)(m c:Nat)(w:World):CB 19 #[.int .i64 k,.slice A m c] (.agg #[.int .i64 k,.string ⟨#[]⟩,.int .i64 0,.int .i64 0,.slice A m c]) w:=by refine wid ?_;obtain⟨W1,hW1,F1⟩:=dR ((Fr.nil w).a w.heap.size [.int .i64 k,.string ⟨#[]⟩,.int .i64 0,.int .i64 0,.slice A m c] 48);have o1:=aW F1;have F:=Hd F1;clear F1;refine ent func19 rfl ntmps19 ?_;gi_wp2;exact⟨rfl,_,by simp[results,go_sem,o1],rfl,F.out.bl⟩
def laI:bW:=(⟨#[98]⟩,3,2)
def laJ:bW:=(⟨#[109]⟩,2,1)
theorem Y2(w:World)(M:List Nat):Rep.rd w M Y1 [.string ⟨#[99]⟩,.int .i64 0,.int .i64 10,.int .i64 1,.int .i64 3,.int .i64 0,.bool false]:=⟨[_],_,rfl,rfl, [_],_,rfl,⟨rfl,by unfold i64;decide⟩, [_],_,rfl,⟨rfl,by unfold i64;decide⟩, [_],_,rfl,⟨rfl,by unfold i64;decide⟩, [_],_,rfl,⟨rfl,by unfold i64;decide⟩, [_],_,rfl,⟨rfl,by unfold i64;decide⟩,rfl⟩
theorem QL{s:ByteArray}{a:Int}(ha:i64 a)(hb:i64 b):Rep.rd w M ((s,a,b):bW) [.string s,.int .i64 a,.int .i64 b]:=⟨[_],_,rfl,rfl, [_],_,rfl,⟨rfl,ha⟩,⟨rfl,hb⟩⟩
theorem wH{α:Type} [Rep α] {x:α}(h:Rep.rd w M x cs):∀k y, [x][k]?=some y->∃es,Rep.rd w M y es/\∀j u,es[j]?=some u->cs[k*Rep.sz α+j]?=some u:=fun k y hk=>by
 match k,hk with
 |0,hk=>cases hk;exact⟨cs,h,fun j u hu=>by rwa [Nat.zero_mul,Nat.zero_add]⟩
theorem Xe{α:Type} [Rep α] {x y:α}{ds:List Value}(h:Rep.rd w M x cs)(h2:Rep.rd w M y ds):∀k z, [x,y][k]?=some z->∃es,Rep.rd w M z es/\∀j u,es[j]?=some u->(cs++ds)[k*Rep.sz α+j]?=some u:=fun k z hk=>by
 match k,hk with
 |0,hk=>cases hk;exact⟨cs,h,fun j u hu=>by rw[Nat.zero_mul,Nat.zero_add,List.getElem?_append_left (List.getElem?_eq_some_iff.1 hu).1];exact hu⟩
 |1,hk=>cases hk;exact⟨ds,h2,fun j u hu=>by rw[Nat.one_mul,List.getElem?_append_right (by rw[Rep.len h];omega),Rep.len h,Nat.add_sub_cancel_left];exact hu⟩
abbrev dH:dK:=⟨none,0,0⟩
def Ap(s:Nat)(M:List Nat):Nat->Value->World->Prop
 |0,v,_=>v=.agg #[.string ⟨#[99]⟩,.int .i64 0,.int .i64 10,.int .i64 1,.int .i64 3,.int .i64 0,.bool false]
 |1,v,W=>QK M bT [Y1] v W
 |2,v,_=>v=.agg #[.string ⟨#[98]⟩,.int .i64 3,.int .i64 2]
 |3,v,W=>QK M bW [laI] v W
 |4,v,_=>v=.agg #[.string ⟨#[109]⟩,.int .i64 2,.int .i64 1]
 |5,v,W=>QK M bW [laJ] v W
 |6,v,W=>TI M Xa v W
 |7,v,W=>TI M Xb v W
 |8,v,W=>QK M aU [Xa,Xb] v W
 |9,v,W=>TI M Xc v W
 |10,v,W=>TI M Xd v W
 |11,v,W=>QK M aU [Xc,Xd] v W
 |12,v,W=>TI M O_ v W
 |13,v,W=>∃A m c,v=.agg #[.string ⟨#[114]⟩,.int .i64 3,.int .i64 1,.int .i64 1,.bool false,.bool false,.int .i64 7,.string ⟨#[]⟩,.int .i64 0,.int .i64 0,.slice A m c,.string ⟨#[]⟩,.int .i64 (-1)]/\Sl aU W M A m c O_.l
 |14,v,W=>QK M aJ [EW] v W
 |15,v,W=>∃s1 s2 s3 s5:dK,v=.agg (aV uX s1 s2 s3 dH s5 dH dH).toArray/\dG W M uX s1 s2 s3 dH s5 dH dH
 |16,v,W=>∃b,v=.pointer (some ⟨b,0,none⟩)/\b∈M/\s<=b/\mP W b nR
 |_,_,_=>True
theorem Ap.go{s:Nat}{M:List Nat}{j:Nat}{v:Value}{W W':World}(hM:j=16->b_ M W)(h:Ap s M j v W)(hb:Below W.heap.size W W'):Ap s M j v W':=by
 match j,h with
 |0,h|2,h|4,h=>exact h
 |1,h|3,h|5,h|8,h|11,h|14,h=>exact QK.go h hb
 |6,h|7,h|9,h|10,h|12,h=>exact TI.go h hb
 |13,h=>obtain⟨A,m,c,e,hs⟩:=h;exact⟨A,m,c,e,hs.go hb⟩
 |15,h=>obtain⟨s1,s2,s3,s5,e,hs⟩:=h;exact⟨s1,s2,s3,s5,e,hs.go hb⟩
 |16,h=>obtain⟨b,e,h1,h2,h3⟩:=h;exact⟨b,e,h1,h2,fun i u hu=>⟨(hb.cell (p:=⟨b,i,none⟩) (hM rfl b h1)).trans (h3 i u hu).1,(hb.frozen (p:=⟨b,i,none⟩) (hM rfl b h1)).trans (h3 i u hu).2⟩⟩
 |_+17,_=>exact trivial
theorem Ap.more{s:Nat}{M:List Nat}{j b:Nat}{v:Value}{W:World}(h:Ap s M j v W)(hb:W.heap.size<=b):Ap s (b::M) j v W:=by
 match j,h with
 |0,h|2,h|4,h=>exact h
 |1,h|3,h|5,h|8,h|11,h|14,h=>exact QK.more h hb
 |6,h|7,h|9,h|10,h|12,h=>exact TI.more h hb
 |13,h=>obtain⟨A,m,c,e,hs⟩:=h;exact⟨A,m,c,e,hs.more hb⟩
 |15,h=>obtain⟨s1,s2,s3,s5,e,hs⟩:=h;exact⟨s1,s2,s3,s5,e,hs.more hb⟩
 |16,h=>obtain⟨q,e,h1,h2,h3⟩:=h;exact⟨q,e,List.mem_cons_of_mem _ h1,h2,h3⟩
 |_+17,_=>exact trivial
theorem dG.less{w:World}{M M':List Nat}{r:aS}{s1 s2 s3 s4 s5 s6 s7:dK}(h:dG w M r s1 s2 s3 s4 s5 s6 s7)(k:∀q,q∈M'->q∈M):dG w M' r s1 s2 s3 s4 s5 s6 s7:=⟨h.aT.less k,h.bonus.less k,h.malus.less k,h.ties.less k,h.rounds.less k,h.prizes.less k,h.points.less k,h.best⟩
def iH(p0 p1 p2 v4 v5 v6:Value)(x:Nat->Value):Act:=⟨#[p0,p1,p2,x 16,v4,v5,v6,x 0,x 1,x 2,x 3,x 4,x 5,x 6,x 7,x 8,x 9,x 10,x 11,x 12,x 13,x 14,x 15,undef,undef,undef,undef,undef,undef], []⟩
def oO(u:World)(M0:List Nat)(p0 p1 p2 v4 v5 v6:Value)(D:Nat->Bool)(a:Act)(W:World):Prop:=∃x,a=iH p0 p1 p2 v4 v5 v6 x/\Below u.heap.size u W/\(D 17=true->∃b s1 s2 s3 s5,x 16=.pointer (some ⟨b,0,none⟩)/\b<W.heap.size/\u.heap.size<=b/\mP W b (aV uX s1 s2 s3 dH s5 dH dH)/\dG W M0 uX s1 s2 s3 dH s5 dH dH)/\(D 17=false->∃L,b_ (L++M0) W/\(∀q,q∈L->u.heap.size<=q)/\∀j,j<17->D j=true->Ap u.heap.size (L++M0) j (x j) W)
section
variable {u:World}{L M0:List Nat}{p0 p1 p2 v4 v5 v6:Value}{D:Nat→Bool}{W W':World}{x:Nat→Value}{a:Act}
theorem oO.put(i:Nat){v:Value}(h17:D 17=false)(hU:Below u.heap.size u W)(hM:b_ (L++M0) W)(m2:∀q,q∈L->u.heap.size<=q)(hR:∀j,j<17->D j=true->Ap u.heap.size (L++M0) j (x j) W)(hb:Below W.heap.size W W')(hv:Ap u.heap.size (L++M0) i v W')(ha:a=iH p0 p1 p2 v4 v5 v6 fun j=>if j=i then v else x j)(hi:i<17:=by omega):
 oO u M0 p0 p1 p2 v4 v5 v6 (fun j=>D j||decide (j=i)) a W':=by
 refine⟨_,ha,hU.trans (hb.mono hU.size),fun h=>?_,fun _=>⟨L,hM.le hb.size,m2,fun j hj hd=>?_⟩⟩
 ·have:¬17=i:=by omega
  simp[h17,this]at h
 ·by_cases e:j=i;·subst e;simpa using hv
  simp only[Bool.or_eq_true,decide_eq_true_eq,e,or_false]at hd;simp only[e,if_false];exact(hR j hj hd).go (fun _=>hM) hb
theorem oO.fin{b:Nat}{s1 s2 s3 s5:dK}(hU:Below u.heap.size u W)(hbl:b<W.heap.size)(Nw:b∈L++M0)(hbu:u.heap.size<=b)(e16:x 16=.pointer (some ⟨b,0,none⟩))(hcb:mP W b nR)(hrs:dG W (L++M0) uX s1 s2 s3 dH s5 dH dH)
 (hW:fM W b 0 (aV uX s1 s2 s3 dH s5 dH dH)=W') (ha:a=iH p0 p1 p2 v4 v5 v6 x):oO u M0 p0 p1 p2 v4 v5 v6 (fun j=>D j||decide (j=17)) a W':=by
 obtain⟨c,k⟩:=iO (w:=W) (b:=b) (vs:=nR) (us:=aV uX s1 s2 s3 dH s5 dH dH) hcb rfl hW;exact⟨x,ha,hU.trans (k.bl.mono hbu),fun _=>⟨b,s1,s2,s3,s5,e16,Nat.lt_of_lt_of_le hbl k.k.size,hbu,c,(hrs.keep (k.k.mono fun q hq=>by rw[List.mem_singleton]at hq;subst hq;exact Nw)).less fun q hq=>List.mem_append_right _ hq⟩,fun h=>by simp at h⟩
end
theorem i3{a c:Int}(h:(-9223372036854775808<=a/\a<=9223372036854775807)/\(-9223372036854775808<=b/\b<=9223372036854775807)/\(-9223372036854775808<=c/\c<=9223372036854775807):=by decide):i64 a/\i64 b/\i64 c:=h
theorem i1{a:Int}(h: -9223372036854775808<=a/\a<=9223372036854775807:=by decide):i64 a:=h
theorem JE{x:aU}{A:Option Addr}{m c:Nat}(hi:i64 x.kind/\i64 x.n/\i64 x.d)(hs:Sl aU w M A m c x.l):kH w M x [.int .i64 x.kind,.string x.name,.int .i64 x.n,.int .i64 x.d,.slice A m c]:=by cases x;exact kH.of hi hs
theorem BN{xs:List Int}(h:∀x,x∈xs->i64 x):∀k x,xs[k]?=some x->∃es,Rep.rd w M x es/\∀j u,es[j]?=some u->(xs.map (Value.int .i64))[k*Rep.sz Int+j]?=some u:=fun k x hk=>⟨[.int .i64 x],⟨rfl,h x (List.mem_of_getElem? hk)⟩,fun j u hu=>by
 match j,hu with
 |0,hu=>cases hu;rw[show Rep.sz Int=1 from rfl,Nat.mul_one,Nat.add_zero,List.getElem?_map,hk];rfl⟩
structure adq(w:World)(t1 t2 t3:dK):Prop where
 marks:Sl (List Int) w [] t1.A t1.n t1.c (QJ 6).marks
 bonus:Sl Int w [] t2.A t2.n t2.c (QJ 6).bonus
 malus:Sl Int w [] t3.A t3.n t3.c (QJ 6).malus
 prev:Sl fC w [] none 0 0 (QJ 6).prev
def Y3(w:World)(e:Ending)(w':World):Prop:=∃s1 s2 s3 s5 t1 t2 t3:dK,e=.returned (.tuple #[.agg (aV uX s1 s2 s3 dH s5 dH dH).toArray,.agg #[.slice t1.A t1.n t1.c,.slice t2.A t2.n t2.c,.slice t3.A t3.n t3.c,.slice none 0 0]])/\dG w' [] uX s1 s2 s3 dH s5 dH dH/\adq w' t1 t2 t3/\Below w.heap.size w w'
attribute [irreducible] Y3
theorem one_any(w:World):Calls prog 23 #[] w (Y3 w):=by
 refine wid ?_;obtain⟨W1,hW1,F1⟩:=dR (((Fr.nil w).a w.heap.size nR 28).a (w.heap.size+1) [.slice none 0 0,.slice none 0 0,.slice none 0 0,.slice none 0 0] 32);have o1:=aW F1;have F:=Hd F1;clear F1;refine ent func23 rfl ntmps23 ?_
 gi_wp2_with (first
  |(refine Cl 57 (TJ _) ?_;rintro e w2 ⟨rfl,hb2⟩;have F2:=F.out.go hb2;obtain⟨w4,hw4,F4⟩:=dR ((F2.a w2.heap.size [.int .i64 2,.string ⟨#[99]⟩,.int .i64 0,.int .i64 0,.slice none 0 0] 48).a (w2.heap.size+1) [.int .i64 8,.string ⟨#[]⟩,.int .i64 2,.int .i64 1,.slice (some ⟨w2.heap.size,0,none⟩) 1 1] 48);have o4:=aW F4;have hM0:b_ [w.heap.size,w.heap.size+1] w2:=fun q hq=>by
     simp only[List.mem_cons,List.not_mem_nil,or_false]at hq;have h1:=F2.mJ 0;have h2:=F2.mJ 1;rcases hq with rfl|rfl<;>omega
    have hs:Sl aU w4 [w.heap.size,w.heap.size+1] (some ⟨w2.heap.size,0,none⟩) 1 1 [Y0]:=by rw[<-hw4];exact(lN hM0 48 [Y0] (by simp) (wH (kH.of (name:=⟨#[99]⟩) i3 (Sl.Es _ _)))).go (by exact bel)
    have hM4:b_ [w.heap.size,w.heap.size+1] w4:=hM0.le (by rw[<-hw4];simp;omega);have FH:=fB F4 hs hM4;clear F2 F4 hM0 hs hM4 hb2)
  |fail)
 clear o1 o4;refine ND (by kernel_rfl) (by kernel_rfl) (oO w4 [w.heap.size,w.heap.size+1] (.pointer (some ⟨w.heap.size,0,none⟩)) (.pointer (some ⟨w.heap.size+1,0,none⟩)) (.pointer (some ⟨w2.heap.size+1,0,none⟩)) (.agg #[.int .i64 2,.string ⟨#[99]⟩,.int .i64 0,.int .i64 0,.slice none 0 0]) (.slice (some ⟨w2.heap.size,0,none⟩) 1 1) (.agg #[.int .i64 8,.string ⟨#[]⟩,.int .i64 2,.int .i64 1,.slice (some ⟨w2.heap.size,0,none⟩) 1 1])) ?_ ?_ ?_;·exact⟨fun _=>undef,rfl,(Below.refl _ _).drew,fun h=>(by cases h),fun _=>⟨[],FH.out.2.2,fun q h=>(by cases h),fun j _ h=>by cases h⟩⟩
 ·intro i o ho D a W hI hd hcl hdp;obtain⟨x,rfl,hU,-,hR⟩:=hI;have hi:i<18:=by simpa using(Array.getElem?_eq_some_iff.1 ho).1
  by_cases h17:i=17;·subst h17;obtain⟨L,hM,m2,hR⟩:=hR hd;obtain⟨s1,s2,s3,s5,e15,hrs⟩:=hR 15 (by omega) (jf ho hdp 15);obtain⟨b,e16,Nw,hbu,hcb⟩:=hR 16 (by omega) (jf ho hdp 16);have z0:=hcb 0 _ rfl;have z1:=hcb 1 _ rfl;have z2:=hcb 2 _ rfl;have z3:=hcb 3 _ rfl;have z4:=hcb 4 _ rfl;have z5:=hcb 5 _ rfl;have z6:=hcb 6 _ rfl;have z7:=hcb 7 _ rfl;have z8:=hcb 8 _ rfl;have hbl:=hM b Nw;have HH:=h_ hrs hcb Nw hU;clear hrs hcb hU hM m2 hR;simp only[iH,e15,e16];refine gG (fun K hK=>?_);gi_wp2;exact oO.fin HH.out.2.2.2 hbl HH.out.2.2.1 hbu e16 HH.out.2.1 HH.out.1 rfl (by simp only[iH,e15,e16])
  have rZ:D 17=false:=by
   cases e:D 17 with
   |false=>rfl
   |true=>
    have d15:=hcl.dep e 15;have d16:=hcl.dep e 16;have d14:=hcl.dep d15 14;have d5:=hcl.dep d15 5;have d3:=hcl.dep d15 3;have d1:=hcl.dep d15 1;have d13:=hcl.dep d14 13;have d12:=hcl.dep d13 12;have d11:=hcl.dep d12 11;have d10:=hcl.dep d11 10;have d9:=hcl.dep d11 9;have d8:=hcl.dep d9 8;have d7:=hcl.dep d8 7;have d6:=hcl.dep d8 6;have d4:=hcl.dep d5 4;have d2:=hcl.dep d3 2;have d0:=hcl.dep d1 0;have hall:D i=true:=by
     obtain rfl|rfl|rfl|rfl|rfl|rfl|rfl|rfl|rfl|rfl|rfl|rfl|rfl|rfl|rfl|rfl|rfl:i=0\/i=1\/i=2\/i=3\/i=4\/i=5\/i=6\/i=7\/i=8\/i=9\/i=10\/i=11\/i=12\/i=13\/i=14\/i=15\/i=16:=by omega
     all_goals assumption
    rw[hd]at hall;cases hall
  obtain⟨L,hM,m2,hR⟩:=hR rZ;obtain rfl|rfl|rfl|rfl|rfl|rfl|rfl|rfl|rfl|rfl|rfl|rfl|rfl|rfl|rfl|rfl|rfl:i=0\/i=1\/i=2\/i=3\/i=4\/i=5\/i=6\/i=7\/i=8\/i=9\/i=10\/i=11\/i=12\/i=13\/i=14\/i=15\/i=16:=by omega
  ·simp only[iH];refine gG (fun K hK=>?_);gi_wp2;exact oO.put 0 rZ hU hM m2 hR (Below.refl _ _) rfl (by exact aeW)
  ·have e0:=hR 0 (by omega) (jf ho hdp 0);unfold Ap at e0;simp only[iH,e0];refine gG (fun K hK=>?_);gi_wp2;exact oO.put 1 rZ hU hM m2 hR (by exact bel) ⟨_,rfl,lN hM _ [Y1] (by simp) (wH (Y2 W _))⟩ (by exact afR)
  ·simp only[iH];refine gG (fun K hK=>?_);gi_wp2;exact oO.put 2 rZ hU hM m2 hR (Below.refl _ _) rfl (by exact aeW)
  ·have e0:=hR 2 (by omega) (jf ho hdp 2);unfold Ap at e0;simp only[iH,e0];refine gG (fun K hK=>?_);gi_wp2;exact oO.put 3 rZ hU hM m2 hR (by exact bel) ⟨_,rfl,lN hM _ [laI] (by simp) (wH (QL i1 i1))⟩ (by exact afR)
  ·simp only[iH];refine gG (fun K hK=>?_);gi_wp2;exact oO.put 4 rZ hU hM m2 hR (Below.refl _ _) rfl (by exact aeW)
  ·have e0:=hR 4 (by omega) (jf ho hdp 4);unfold Ap at e0;simp only[iH,e0];refine gG (fun K hK=>?_);gi_wp2;exact oO.put 5 rZ hU hM m2 hR (by exact bel) ⟨_,rfl,lN hM _ [laJ] (by simp) (wH (QL i1 i1))⟩ (by exact afR)
  ·have o4:=aW (FH.out.1.go hU);simp only[iH];refine gG (fun K hK=>?_);gi_wp2;clear o4;exact oO.put 6 rZ hU hM m2 hR (Below.refl _ _) ⟨_,_,_,rfl,i3,(FH.out.2.1.moreL L m2).go hU⟩ (by exact aeW)
  ·simp only[iH];refine gG (fun K hK=>?_)
   gi_wp2_with (first
    |(refine Cl 19 (BM _ _ _ _ _) ?_;rintro e w5 ⟨rfl,hb5⟩)
    |fail)
   exact oO.put 7 rZ hU hM m2 hR hb5 ⟨_,_,_,rfl,i3,Sl.Es _ _⟩ (by exact aeW)
  ·obtain⟨A6,n6,c6,e6,i6,g6⟩:=hR 6 (by omega) (jf ho hdp 6);obtain⟨A7,n7,c7,e7,i7,g7⟩:=hR 7 (by omega) (jf ho hdp 7);simp only[iH,e6,e7];refine gG (fun K hK=>?_);gi_wp2;exact oO.put 8 rZ hU hM m2 hR (by exact bel) ⟨_,rfl,lN hM _ [Xa,Xb] (by simp) (show _ from Xe (α:=aU) (x:=Xa) (y:=Xb) (JE i6 g6) (JE i7 g7))⟩ (by simp only[iH,e6,e7,Nat.reduceEqDiff,if_true,if_false,reduceIte]<;>rfl)
  ·obtain⟨A8,e8,g8⟩:=hR 8 (by omega) (jf ho hdp 8);simp only[iH,e8];refine gG (fun K hK=>?_)
   gi_wp2_with (first
    |(refine Cl 19 (BM _ _ _ _ _) ?_;rintro e w5 ⟨rfl,hb5⟩)
    |fail)
   exact oO.put 9 rZ hU hM m2 hR hb5 ⟨_,_,_,rfl,i3,g8.go hb5⟩ (by simp only[iH,e8,Nat.reduceEqDiff,if_true,if_false,reduceIte]<;>rfl)
  ·simp only[iH];refine gG (fun K hK=>?_)
   gi_wp2_with (first
    |(refine Cl 19 (BM _ _ _ _ _) ?_;rintro e w5 ⟨rfl,hb5⟩)
    |fail)
   exact oO.put 10 rZ hU hM m2 hR hb5 ⟨_,_,_,rfl,i3,Sl.Es _ _⟩ (by exact aeW)
  ·obtain⟨A6,n6,c6,e6,i6,g6⟩:=hR 9 (by omega) (jf ho hdp 9);obtain⟨A7,n7,c7,e7,i7,g7⟩:=hR 10 (by omega) (jf ho hdp 10);simp only[iH,e6,e7];refine gG (fun K hK=>?_);gi_wp2;exact oO.put 11 rZ hU hM m2 hR (by exact bel) ⟨_,rfl,lN hM _ [Xc,Xd] (by simp) (show _ from Xe (α:=aU) (x:=Xc) (y:=Xd) (JE i6 g6) (JE i7 g7))⟩ (by simp only[iH,e6,e7,Nat.reduceEqDiff,if_true,if_false,reduceIte]<;>rfl)
  ·obtain⟨A8,e8,g8⟩:=hR 11 (by omega) (jf ho hdp 11);simp only[iH,e8];refine gG (fun K hK=>?_)
   gi_wp2_with (first
    |(refine Cl 19 (BM _ _ _ _ _) ?_;rintro e w5 ⟨rfl,hb5⟩)
    |fail)
   exact oO.put 12 rZ hU hM m2 hR hb5 ⟨_,_,_,rfl,i3,g8.go hb5⟩ (by simp only[iH,e8,Nat.reduceEqDiff,if_true,if_false,reduceIte]<;>rfl)
  ·obtain⟨A6,n6,c6,e6,i6,g6⟩:=hR 12 (by omega) (jf ho hdp 12);simp only[iH,e6];refine gG (fun K hK=>?_);gi_wp2;exact oO.put 13 rZ hU hM m2 hR (Below.refl _ _) ⟨_,_,_,rfl,g6⟩ (by simp only[iH,e6,Nat.reduceEqDiff,if_true,if_false,reduceIte]<;>rfl)
  ·obtain⟨A6,n6,c6,e6,g6⟩:=hR 13 (by omega) (jf ho hdp 13);simp only[iH,e6];refine gG (fun K hK=>?_);gi_wp2;exact oO.put 14 rZ hU hM m2 hR (by exact bel) ⟨_,rfl,lN hM _ [EW] (by simp) (wH (sS (x:=EW) ⟨i1,i1,i1,i1⟩ i3 g6))⟩ (by simp only[iH,e6,Nat.reduceEqDiff,if_true,if_false,reduceIte]<;>rfl)
  ·obtain⟨A1,e1,g1⟩:=hR 1 (by omega) (jf ho hdp 1);obtain⟨A3,e3,g3⟩:=hR 3 (by omega) (jf ho hdp 3);obtain⟨A5,e5,g5⟩:=hR 5 (by omega) (jf ho hdp 5);obtain⟨A6,e6,g6⟩:=hR 14 (by omega) (jf ho hdp 14);simp only[iH,e1,e3,e5,e6];refine gG (fun K hK=>?_);gi_wp2;exact oO.put 15 rZ hU hM m2 hR (Below.refl _ _) ⟨⟨A1,1,1⟩,⟨A3,1,1⟩,⟨A5,1,1⟩,⟨A6,1,1⟩,rfl,g1,g3,g5,Sl.Es _ _,g6,Sl.Es _ _,Sl.Es _ _,i1⟩ (by simp only[iH,e1,e3,e5,e6,Nat.reduceEqDiff,if_true,if_false,reduceIte]<;>rfl)
  simp only[iH];refine gG (fun K hK=>?_);gi_wp2;refine⟨fun j=>if j=16 then .pointer (some ⟨W.heap.size,0,none⟩)else x j,by simp only[iH];rfl,hU.trans ((by exact bel:Below W.heap.size W _).mono hU.size),fun h=>by simp[rZ]at h,fun _=>⟨W.heap.size::L,?_,?_,fun j hj hd=>?_⟩⟩
  ·intro q hq;rcases List.mem_cons.1 hq with rfl|hq;·simp
   have:=hM q hq;simp;omega
  ·intro q hq;rcases List.mem_cons.1 hq with rfl|hq;·exact hU.size
   exact m2 q hq
  by_cases e:j=16;·subst e;exact⟨_,by simp,List.mem_cons_self,hU.size,fun i u hu=>((Fr.nil W).a W.heap.size nR 28).at_ _ nR (by simp) i u hu⟩
  simp only[Bool.or_eq_true,decide_eq_true_eq,e,or_false]at hd;simp only[e,if_false];exact((hR j hj hd).more (Nat.le_refl _)).go (fun h=>absurd h e) (by exact bel)
 intro D a W hI hall;obtain⟨x,rfl,hU,hF,-⟩:=hI;obtain⟨b,s1,s2,s3,s5,e16,hbl,hbu,hcb,hrs⟩:=hF (hall 17 (by decide));have z0:=(hcb 0 _ rfl).1;have z1:=(hcb 1 _ rfl).1;have z2:=(hcb 2 _ rfl).1;have z3:=(hcb 3 _ rfl).1;have z4:=(hcb 4 _ rfl).1;have z5:=(hcb 5 _ rfl).1;have z6:=(hcb 6 _ rfl).1;have z7:=(hcb 7 _ rfl).1;have z8:=(hcb 8 _ rfl).1;have FW:=FH.out.1.go hU;have hM0:b_ [w.heap.size,w.heap.size+1] W:=FH.out.2.2.le hU.size;obtain⟨V,hV,FV⟩:=dR ((((FW.a W.heap.size [.int .i64 4,.int .i64 6,.int .i64 5] 3).a (W.heap.size+1) [.slice (some ⟨W.heap.size,0,none⟩) 3 3] 26).a (W.heap.size+1+1) [.int .i64 2] 3).a (W.heap.size+1+1+1) [.int .i64 1] 3);have oV:=aW FV;have hWV:Below W.heap.size W V:=by rw[<-hV];exact bel
 have c1:Sl (List Int) V [w.heap.size,w.heap.size+1] (some ⟨W.heap.size+1,0,none⟩) 1 1 [[4,6,5]]:=by rw[<-hV];have k1:=lN hM0 3 ([4,6,5]:List Int) (by simp) (BN fun x hx=>by simp at hx;rcases hx with rfl|rfl|rfl<;>exact i1);have k2:=lN (w:=W.alloc (.cells #[.int .i64 4,.int .i64 6,.int .i64 5] 3)) (hM0.le (by simp)) 26 (cs:= [.slice (some ⟨W.heap.size,0,none⟩) 3 3]) ([[4,6,5]]:List (List Int)) (by simp) (wH (α:=List Int) (x:= [4,6,5]) ⟨_,_,_,rfl,k1⟩);have k3:=k2.go (w':=((((W.alloc (.cells #[.int .i64 4,.int .i64 6,.int .i64 5] 3)).alloc (.cells #[.slice (some ⟨W.heap.size,0,none⟩) 3 3] 26)).alloc (.cells #[.int .i64 2] 3)).alloc (.cells #[.int .i64 1] 3))) (by exact bel);simpa using k3
 have c2:Sl Int V [w.heap.size,w.heap.size+1] (some ⟨W.heap.size+1+1,0,none⟩) 1 1 [2]:=by rw[<-hV];have k1:=lN (w:=(W.alloc (.cells #[.int .i64 4,.int .i64 6,.int .i64 5] 3)).alloc (.cells #[.slice (some ⟨W.heap.size,0,none⟩) 3 3] 26)) (hM0.le (by simp;omega)) 3 ([2]:List Int) (by simp) (BN fun x hx=>by simp at hx;subst hx;exact i1);have k3:=k1.go (w':=((((W.alloc (.cells #[.int .i64 4,.int .i64 6,.int .i64 5] 3)).alloc (.cells #[.slice (some ⟨W.heap.size,0,none⟩) 3 3] 26)).alloc (.cells #[.int .i64 2] 3)).alloc (.cells #[.int .i64 1] 3))) (by exact bel);simpa using k3
 have c3:Sl Int V [w.heap.size,w.heap.size+1] (some ⟨W.heap.size+1+1+1,0,none⟩) 1 1 [1]:=by rw[<-hV];have k1:=lN (w:=((W.alloc (.cells #[.int .i64 4,.int .i64 6,.int .i64 5] 3)).alloc (.cells #[.slice (some ⟨W.heap.size,0,none⟩) 3 3] 26)).alloc (.cells #[.int .i64 2] 3)) (hM0.le (by simp;omega)) 3 ([1]:List Int) (by simp) (BN fun x hx=>by simp at hx;subst hx;exact i1);simpa using k1
 have HC:=fB c1 c2 c3;have HR:=Hd2 (hrs.go hWV) FV;clear c1 c2 c3 hrs hcb FW FV hM0 hF hall hU hWV;obtain⟨U1,hU1⟩:=aC (fM V w.heap.size 0 (aV uX s1 s2 s3 dH s5 dH dH));obtain⟨U,hU⟩:=aC (fM U1 (w.heap.size+1) 0 [.slice (some ⟨W.heap.size+1,0,none⟩) 1 1,.slice (some ⟨W.heap.size+1+1,0,none⟩) 1 1,.slice (some ⟨W.heap.size+1+1+1,0,none⟩) 1 1,.slice none 0 0]);have g1:=hU1;have g2:=hU;simp only[fM,Nat.zero_add,Nat.reduceAdd]at g1 g2;obtain⟨a1,k1⟩:=iO (w:=V) (b:=w.heap.size) (vs:=nR) (us:=aV uX s1 s2 s3 dH s5 dH dH) (fun i u hu=>HR.out.2.at_ w.heap.size nR (by simp) i u hu) rfl hU1;have cb:mP U1 (w.heap.size+1) [.slice none 0 0,.slice none 0 0,.slice none 0 0,.slice none 0 0]:=fun i u hu=>by have h1:=HR.out.2.at_ (w.heap.size+1) [.slice none 0 0,.slice none 0 0,.slice none 0 0,.slice none 0 0] (by simp) i u hu;have h2:=k1.k.block (w.heap.size+1) (HR.out.2.mJ 1) (by simp);exact afs
 obtain⟨a2,k2⟩:=iO (w:=U1) (b:=w.heap.size+1) (vs:= [.slice none 0 0,.slice none 0 0,.slice none 0 0,.slice none 0 0]) (us:= [.slice (some ⟨W.heap.size+1,0,none⟩) 1 1,.slice (some ⟨W.heap.size+1+1,0,none⟩) 1 1,.slice (some ⟨W.heap.size+1+1+1,0,none⟩) 1 1,.slice none 0 0]) cb rfl hU;have c0:=(cb 0 _ rfl).1;have c1:=(cb 1 _ rfl).1;have c2:=(cb 2 _ rfl).1;have c3:=(cb 3 _ rfl).1;have f0:=(cb 0 _ rfl).2;have f1:=(cb 1 _ rfl).2;have f2:=(cb 2 _ rfl).2;have f3:=(cb 3 _ rfl).2;clear cb;simp only[iH,e16];gi_wp2;clear g1 g2 c0 c1 c2 c3 f0 f1 f2 f3;have y:∀i u,(aV uX s1 s2 s3 dH s5 dH dH)[i]?=some u->U.cell? ⟨w.heap.size,i,none⟩=some u:=fun i u hu=>k2.k.cell (by simp) (a1 i u hu).1;have y0:=y 0 _ rfl;have y1:=y 1 _ rfl;have y2:=y 2 _ rfl;have y3:=y 3 _ rfl;have y4:=y 4 _ rfl;have y5:=y 5 _ rfl;have y6:=y 6 _ rfl;have y7:=y 7 _ rfl;have y8:=y 8 _ rfl;have x0:=(a2 0 _ rfl).1;have x1:=(a2 1 _ rfl).1;have x2:=(a2 2 _ rfl).1;have x3:=(a2 3 _ rfl).1;have kp:∀{q},q∈ [w.heap.size]\/q∈ [w.heap.size+1]->q∈ [w.heap.size,w.heap.size+1]:=fun h=>by simp at h |-;exact h
 have e1:=k1.k.mono fun q hq=>kp (.inl hq);have e2:=k2.k.mono fun q hq=>kp (.inr hq);have ek:=e1.trans e2;clear y a1 a2 hU hU1 hV oV z0 z1 z2 z3 z4 z5 z6 z7 z8;refine⟨rfl,.tuple #[.agg (aV uX s1 s2 s3 dH s5 dH dH).toArray,.agg #[.slice (some ⟨W.heap.size+1,0,none⟩) 1 1,.slice (some ⟨W.heap.size+1+1,0,none⟩) 1 1,.slice (some ⟨W.heap.size+1+1+1,0,none⟩) 1 1,.slice none 0 0]],by simp[results,go_sem,y0,y1,y2,y3,y4,y5,y6,y7,y8,x0,x1,x2,x3],?_⟩;unfold Y3;exact⟨s1,s2,s3,s5,⟨_,1,1⟩,⟨_,1,1⟩,⟨_,1,1⟩,rfl,(HR.out.1.keep ek).less (fun q h=>by cases h),⟨(HC.out.1.keep ek).less (fun q h=>by cases h),(HC.out.2.1.keep ek).less (fun q h=>by cases h),(HC.out.2.2.keep ek).less (fun q h=>by cases h),Sl.Es _ _⟩,HR.out.2.bl.trans ((k1.bl.trans (k2.bl.mono (Nat.le_succ _))).mono (Nat.le_refl _))⟩
end
end Go.Proofs.YtlcgbfkdnmdigaaGreatDoor
