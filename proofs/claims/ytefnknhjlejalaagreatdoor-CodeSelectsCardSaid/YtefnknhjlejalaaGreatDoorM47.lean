/- Lemmas and walks; no statement is proved here. -/
import Derived.ArgAppend
import Derived.Test.YtefnknhjlejalaaGreatDoorM46
import Derived.Test.YtefnknhjlejalaaGreatDoorM33
set_option linter.unusedVariables false
set_option linter.unusedSimpArgs false
set_option maxRecDepth 20000
set_option maxHeartbeats 6000000
namespace Go.Proofs.YtefnknhjlejalaaGreatDoor
theorem adA{p:Prop}(h:p:=by rw[<-X7];exact(F9.qY (j:=0) (fun b vs hm=>by simp at hm;omega) rfl (.int .i64 nc)).qY (j:=1) (fun b vs hm=>by simp at hm;omega) rfl (.slice A9 (n9+1) c9)):p:=h
theorem aeS{p:Prop}(h:p:=by simp[Builtin.append_,run_underlying ht,sizeOf,typeInfo,i1,Builtin.lenOf,Builtin.firstCells,hn,storeCells]):p:=h
variable {t e:TypeId}{sz n c k:Nat}{A:Option Addr}{acc:List InsR}{nc d:Int}
def iG:RatR:=((false, []),(false, []))
def BG(n d:Int):RatR:=if d=0 then iG else jd (eP n d)
def insOf(nc k n d:Int)(l:List Int):InsR:=
 if k=1 then(1,l.getD 0 0,l.getD 1 0,l.getD 2 0,l.getD 3 0,BG n d)
 else if k=2 then(2,n,l.getD 1 0,l.getD 2 0,l.getD 3 0,iG)
 else if k=3 then(2,nc,l.getD 1 0,l.getD 2 0,l.getD 3 0,iG)
 else if k=4 then(2,nc+1,l.getD 1 0,l.getD 2 0,l.getD 3 0,iG)
 else if k=5 then(2,nc+2+n,l.getD 1 0,l.getD 2 0,l.getD 3 0,iG)
 else if k=8 then(5,l.getD 0 0,l.getD 1 0,l.getD 2 0,l.getD 3 0,BG n d)
 else(if k=6 then 3 else if k=7 then 4 else k-3,l.getD 0 0,l.getD 1 0,l.getD 2 0,l.getD 3 0,iG)
mutual
def mV(nc:Int):aU->List InsR->List InsR
 | .mk k _ n d l,acc=>(gX nc l acc).1++ [insOf nc k n d (gX nc l acc).2]
def gX(nc:Int):List aU->List InsR->List InsR×List Int
 | [],acc=>(acc, [])
 |x::l,acc=>((gX nc l (mV nc x acc)).1,(((mV nc x acc).length:Int)-1)::(gX nc l (mV nc x acc)).2)
end
theorem NG(nc:Int)(x:aU)(acc:List InsR):mV nc x acc=(gX nc x.l acc).1++ [insOf nc x.kind x.n x.d (gX nc x.l acc).2]:=by cases x;rw[mV];rfl
theorem zK(nc:Int)(x:aU):∀(l:List aU) (acc:List InsR),gX nc (l++ [x]) acc=(mV nc x (gX nc l acc).1,(gX nc l acc).2++ [((mV nc x (gX nc l acc).1).length:Int)-1])
 | [],acc=>by rw[List.nil_append,gX,gX,gX];rfl
 |y::l,acc=>by rw[List.cons_append,gX,zK nc x l,gX];rfl
theorem AV(nc:Int):∀(l:List aU) (acc:List InsR),(gX nc l acc).2.length=l.length
 | [],acc=>by rw[gX];rfl
 |y::l,acc=>by rw[gX,List.length_cons,AV nc l,List.length_cons]
section
open Go.RowKit Go.Shelf
theorem EC(ht:Tryz.prog.underlying t=some (.slice e))(hz:∀w,(sizeOf e).run Tryz.prog w=.ok sz w)(A:Option Addr){cp:Nat}(hn:n<=cp)(w:World):
 (Instr.sliceAt t (.slice A n cp) none (some (.int .i64 (n:Int))) (some (.int .i64 (n:Int)))).run Tryz.prog w=.ok (.slice A n n) w:=by
 have he:Tryz.prog.elem t=e:=by simp[Program.elem,ht]
 have ht':Tryz.prog.underlying t=some (.slice (Tryz.prog.elem t)):=by rw[he];exact ht
 rw[run_sliceAt_slice w t _ _ _ _ ht',run_slice_hm w t A n cp ht' .i64 .i64 (n:Int) (n:Int) (by omega) (Int.le_refl _) (by omega),he,hz];exact aek
theorem Sl.abp{α:Type} [kJ α] {w:World}{M:List Nat}{m g o:Nat}{xs ys:List α}(hs:Sl α w M A n n xs)(hA:n=0->A=none)(ht:Tryz.prog.underlying t=some (.slice e))(hi:iU e (Rep.sz α))(hM:b_ M w)(hy:Sl α w M (some ⟨g,o,none⟩) m c ys)(hm:0<m)(hn:n+m<=1000):
 ∃A' c' w',(Builtin.append_ #[t,t] t #[.slice A n n,.slice (some ⟨g,o,none⟩) m c]).run Tryz.prog w=.ok (.slice A' (n+m) c') w'/\Sl α w' M A' (n+m) c' (xs++ys)/\Below w.heap.size w w':=by
 obtain⟨i,z,i1,i2,i3,i4,i5⟩:=hi;have hnm:(n+m)*i.bytes<=140737488355328:=Nat.le_trans (Nat.mul_le_mul hn i5) (by decide);by_cases h0:n=0;·subst h0;obtain rfl:=hA rfl;obtain rfl:xs= []:=List.length_eq_zero_iff.1 hs.len;obtain⟨v',w',r1,r2,r3,-⟩:=(bD.nil (e:=e) w M w.heap.size).uy (t:=t) (ty:=t) (Nat.le_refl _) ht i1 i2 i3 i4 (by simpa[bP,Value.ownBlock]using hy) hnm (by omega);obtain⟨A',c',rfl,hs'⟩:=r2.sl (by omega) hM;exact⟨A',c',w',r1,hs',⟨r3.os,r3.tape,r3.output,r3.size,fun k hk=>r3.block k hk (by simp[Value.ownBlock])⟩⟩
 ·obtain⟨y,hx⟩:=dW xs 0 (by rw[hs.len];omega);obtain⟨b,o',es,rfl,-⟩:=hs.get hx;obtain⟨olds,o1,o2,o3,o4⟩:=hs.row;obtain⟨news,n1,n2,n3,n4⟩:=hy.row;obtain⟨v',w',r1,r2,r3⟩:=run_append_arg_grows (P:=Tryz.prog) w t t e i z (Rep.sz α) i.bytes ht i1 i2 i3 rfl i4 kE.pos ⟨b,o',none⟩ n n olds o1 (fun j u hu=>by rw[Addr.add_lit];exact o2 j u hu) ⟨g,o,none⟩ m c news n1 (fun j u hu=>by rw[Addr.add_lit];exact n2 j u hu) (by omega) (by unfold maxLen;omega) hnm;have hbg:Below w.heap.size w w':=⟨r3.os,r3.tape,r3.output,r3.size,fun k hk=>r3.block k hk (by simp)⟩;have ow:bD α e w' M w.heap.size v' (n+m) (xs++ys):=by
   refine⟨by rw[List.length_append,hs.len,hy.len],_,r2,fun k y hk=>?_⟩;have up:∀{y:α}{es:List Value},Rep.rd w M y es->Rep.rd w' (bP v'++M) y es:=fun h=>by
    rcases r2.2 with⟨rfl,-⟩|⟨g,cap,cur,rfl,hg,-⟩;·exact Rep.keep (by simpa[bP,Value.ownBlock]using h) (Keeps.of_below hbg _)
    exact Rep.keep (Rep.more h hg) (Keeps.of_below hbg _)
   by_cases hkn:k<n;·rw[List.getElem?_append_left (by rw[hs.len];exact hkn)]at hk;obtain⟨es,a1,a2⟩:=o4 k y hk;refine⟨es,up a1,fun j u hu=>?_⟩;have:=a2 j u hu;rw[List.getElem?_append_left (List.getElem?_eq_some_iff.1 this).1];exact this
   rw[List.getElem?_append_right (by rw[hs.len];omega),hs.len]at hk;obtain⟨es,a1,a2⟩:=n4 (k-n) y hk;refine⟨es,up a1,fun j u hu=>?_⟩;have:=a2 j u hu;have e:k*Rep.sz α=n*Rep.sz α+(k-n)*Rep.sz α:=by rw[<-Nat.add_mul,Nat.add_sub_cancel' (by omega)]
   rw[e,Nat.add_assoc,List.getElem?_append_right (by omega),o1,Nat.add_sub_cancel_left];exact this
  obtain⟨A',c',rfl,hs'⟩:=ow.sl (by omega) hM;exact⟨A',c',w',r1,hs',hbg⟩
theorem Sl.acg{α:Type} [kJ α] {w:World}{M:List Nat}{xs:List α}{x:α}{cs:List Value}(hs:Sl α w M A n n xs)(hA:n=0->A=none)(ht:Tryz.prog.underlying t=some (.slice e))(hi:iU e (Rep.sz α))(hM:b_ M w)(hx:Rep.rd w M x cs)(hn:n<=999):
 ∃A' c' w',(Builtin.append_ #[t,t] t #[.slice A n n,.slice (some ⟨w.heap.size,0,none⟩) 1 1]).run Tryz.prog (w.alloc (.cells cs.toArray e))=.ok (.slice A' (n+1) c') w'/\Sl α w' M A' (n+1) c' (xs++ [x])/\Below w.heap.size w w'/\Below (w.alloc (.cells cs.toArray e)).heap.size (w.alloc (.cells cs.toArray e)) w':=by
 have hb1:Below w.heap.size w (w.alloc (.cells cs.toArray e)):=by exact bel
 obtain⟨A',c',w',r1,r2,r3⟩:=(hs.go hb1).abp hA ht hi (hM.le hb1.size) (NH hM e hx) (Nat.lt_succ_self 0) (by omega);exact⟨A',c',w',r1,r2,hb1.trans (r3.mono hb1.size),r3⟩
theorem Rk{ty:TypeId}(ht:Tryz.prog.underlying t=some (.slice e))(hi:iU e sz)(A:Option Addr)(hn:n<=c)(w:World):(Builtin.append_ #[t,t] ty #[.slice A n c,.slice none 0 0]).run Tryz.prog w=.ok (.slice A n c) w:=by
 obtain⟨i,z,i1,-⟩:=hi
 cases A with
 |none=>exact aeS
 |some a=>exact aeS
attribute [local go_sem] Oper.semAt_some
theorem MK:iU 38 (Rep.sz InsR):=iU.mk' (z:=.agg #[.int .i64 0,.int .i64 0,.int .i64 0,.int .i64 0,.int .i64 0,.bool false,.slice none 0 0,.bool false,.slice none 0 0]) (b:=104) (by kernel_rfl) rfl (by omega)
theorem Sl.abq{α:Type} [Rep α] {w:World}{M:List Nat}{xs:List α}(h:Sl α w M A n c xs):Sl α w M A n n xs:=⟨h.len,Nat.le_refl _,by have:=h.small;unfold jG;omega,h.small,h.at_⟩
abbrev wC(op a b e d:Int)(p:Bool)(B1:Option Addr)(n1 k1:Nat)(q:Bool)(B2:Option Addr)(n2 k2:Nat):List Value:= [.int .i64 op,.int .i64 a,.int .i64 b,.int .i64 e,.int .i64 d,.bool p,.slice B1 n1 k1,.bool q,.slice B2 n2 k2]
def t_(M:List Nat)(nc:Int)(l:List InsR)(w:World)(e:Ending)(w':World):Prop:=∃A n c,e=.returned (.tuple #[.agg #[.int .i64 nc,.slice A (n+1) c],.int .i64 (n:Int)])/\Sl InsR w' M A (n+1) c l/\Below w.heap.size w w'
theorem Au{M:List Nat}{x:InsR}{op a b e:Int}{p q:Bool}{B1 B2:Option Addr}{n1 k1 n2 k2:Nat}{w:World}(hM:b_ M w)(hs:Sl InsR w M A n c acc)(hA:n=0->A=none)(hn:n<=999)(hx:Rep.rd w M x (wC op a b e d p B1 n1 k1 q B2 n2 k2)):
 Calls Tryz.prog 67 #[.agg #[.int .i64 nc,.slice A n c],.agg (wC op a b e d p B1 n1 k1 q B2 n2 k2).toArray] w (t_ M nc (acc++ [x]) w):=by
 refine wid ?_;have hsm:=hs.small;have hcp:=hs.cap;obtain⟨W1,hW1,F1⟩:=nam ((((Fr.nil w).a w.heap.size [.int .i64 nc,.slice A n c] 91).a (w.heap.size+1) (wC op a b e d p B1 n1 k1 q B2 n2 k2) 38).a (w.heap.size+2) [.int .i64 0,.slice none 0 0] 91);have o1:=opc F1;have hM1:b_ (w.heap.size::(w.heap.size+2)::M) W1.drew:=fun k hk=>by
  have h1:=F1.mJ 0;have h2:=F1.mJ 2;have h3:=hM.le F1.bl.size;simp only[List.mem_cons]at hk;rcases hk with rfl|rfl|hk;·exact h1
  ·exact h2
  exact h3 k hk
 have up:Keeps (w.heap.size::(w.heap.size+2)::M) w W1.drew:=Keeps.of_below F1.bl.drew _;obtain⟨A',c',wA,r1,r2,r3,r4⟩:=Sl.acg (t:=22) (((hs.more (b:=w.heap.size+2) (by omega)).more (Nat.le_refl _)).keep up).abq hA Tryz.underlying22 MK hM1 (Rep.keep (Rep.more (Rep.more hx (Nat.le_add_right _ 2)) (Nat.le_refl _)) up) (by omega);have FA:Fr w wA ([(w.heap.size+2, [.int .i64 0,.slice none 0 0])]++ [(w.heap.size, [.int .i64 nc,.slice A n c])]):=(F1.drew.go r3).only (fun y hy=>by simp at hy |-;rcases hy with rfl|rfl<;>simp);obtain⟨W8,Vt⟩:=aC (wA.setCell ⟨w.heap.size,1,none⟩ (.slice A' (n+1) c'));have F8:Fr w W8 ([(w.heap.size+2, [.int .i64 0,.slice none 0 0])]++ [(w.heap.size, [.int .i64 nc,.slice A' (n+1) c'])]):=by rw[<-Vt];exact FA.qY (j:=1) (fun b vs hm=>by simp at hm;omega) rfl (.slice A' (n+1) c')
 obtain⟨W9,hW9⟩:=aC ((W8.setCell ⟨w.heap.size+2,0,none⟩ (.int .i64 nc)).setCell ⟨w.heap.size+2,1,none⟩ (.slice A' (n+1) c'));have F9:Fr w W9 ([(w.heap.size, [.int .i64 nc,.slice A' (n+1) c'])]++ [(w.heap.size+2, [.int .i64 nc,.slice A' (n+1) c'])]):=by rw[<-hW9];exact((F8.only (L':= [(w.heap.size, [.int .i64 nc,.slice A' (n+1) c'])]++ [(w.heap.size+2, [.int .i64 0,.slice none 0 0])]) (fun y hy=>by simp at hy |-;rcases hy with rfl|rfl<;>simp)).qY (j:=0) (fun b vs hm=>by simp at hm;omega) rfl (.int .i64 nc)).qY (j:=1) (fun b vs hm=>by simp at hm;omega) rfl (.slice A' (n+1) c')
 have kp:Keeps (w.heap.size::(w.heap.size+2)::M) wA W9:=by rw[<-hW9,<-Vt];exact(((Keeps.refl _ wA).setCell (p:=⟨w.heap.size,1,none⟩) (.inl (by simp)) _).setCell (p:=⟨w.heap.size+2,0,none⟩) (.inl (by simp)) _).setCell (p:=⟨w.heap.size+2,1,none⟩) (.inl (by simp)) _
 have HR:=fB r1 r4 ((r2.keep kp).less (M':=M) fun k hk=>by simp[hk]);have HF:=Hd2 F8 F9;have o2:=opc FA;have o3:=opc F8;have sl:=EC (n:=n) Tryz.underlying22 (sz:=9) (fun w=>by kernel_rfl) A hcp;have v0:=ah (F1.aQ 0 1);have v1:=ah (F1.aQ 1 0);have v2:=ah (F1.aQ 1 1);have v3:=ah (F1.aQ 1 2);have v4:=ah (F1.aQ 1 3);have v5:=ah (F1.aQ 1 4);have v6:=ah (F1.aQ 1 5);have v7:=ah (F1.aQ 1 6);have v8:=ah (F1.aQ 1 7);have v9:=ah (F1.aQ 1 8);clear hM hs hA hx up r1 r2 r3 r4 FA F8 F9 kp F1 hM1;refine ent Tryz.func67 rfl Tryz.ntmps67 ?_;gi_wp2;refine aP [] 9 (by kernel_rfl) (by kernel_rfl) ?_;refine ay 0 ?_;refine ay 1 ?_;refine ay 2 ?_;refine ay 3 ?_;refine ay 4 ?_;refine ay 5 ?_;refine eU 6 fun K hK=>?_;gi_wp2;refine⟨Keeps.of_below (show Below W1.drew.heap.size W1.drew _ from(Below.refl _ _).alloc (Nat.le_refl _) _) _,?_⟩;refine lit ?_;refine oQ 7 [] (by kernel_rfl) (dN (by decide) rfl ?_ (fun K hK=>?_) gU);·exact wy
 refine aI _ _ _ rfl rfl rfl HR.out.1 (hK _ _ ⟨Keeps.of_below HR.out.2.1 _,?_⟩);clear hK K;refine lit ?_;refine ay 8 ?_;refine iq 1 ?_;refine jW fun K hK K' hK'=>?_;gi_wp2;refine tail_nil _ ?_;simp only[cu];gi_wp2;have o4:=opc HF.out.2;exact⟨rfl,.tuple #[.agg #[.int .i64 nc,.slice A' (n+1) c'],.int .i64 (n:Int)],by simp[results,go_sem,o4],_,_,_,rfl,HR.out.2.2,HF.out.2.bl⟩
theorem VB{M:List Nat}{v1 v2:Value}{n:Int}{w:World}(hn:ZV w M v1 n)(hd:ZV w M v2 0)(fn:fits n=true):
 CB 103 #[v1,v2] (.tuple #[EP,.int .i64 1]) w:=by
 refine wid ?_;obtain⟨A,k1,c1,rfl,hx⟩:=hn;obtain⟨B,k2,c2,rfl,hy⟩:=hd;obtain rfl:k2=0:=by have hl:=hy.eu;rw[show bG 0= []from bU]at hl;simpa using hl.symm
 have Dx:=Hd (show rJ (gZ (aG n,ints (bG n)))=0 by rw[show(aG n,ints (bG n))=jk n from rfl,j_ n fn];rfl);have EX:=Hd (show rJ (gZ (aG 0,ints (bG 0)))=0 by rw[show(aG 0,ints (bG 0))=jk 0 from rfl,j_ 0 (En (by unfold i64;omega))];rfl);have X:=Hd2 hx hy;obtain⟨q1,hq1⟩:=aC (aG n);have q2:aG 0=false:=rfl;rw[hq1]at Dx |-;rw[q2]at EX |-;clear q2;obtain⟨W1,hW1,F1⟩:=nam (((((Fr.nil w).a w.heap.size [.bool q1,.slice A k1 c1] 28).a (w.heap.size+1) [.bool false,.slice B 0 c2] 28).a (w.heap.size+2) [.bool false,.slice none 0 0,.bool false,.slice none 0 0] 30).a (w.heap.size+3) [.int .i64 0] 31);have o1:=opc F1;have F:=Hd F1;clear hx hy F1 fn hq1;cases q1
 all_goals
  refine qj Tryz.func103 rfl Tryz.ntmps103 ?_
  gi_wp2_with (first
   |(have g:=G4.out;clear g;refine Cl 115 (TW _ _) ?_;rintro e wn ⟨rfl,rfl⟩)
   |(have g:=G3.out;clear g;refine Cl 115 (yF _ _) ?_;rintro e wn ⟨rfl,rfl⟩;have G4:=Hd trivial)
   |(have g:=G2.out;clear g;have Y:=eF B 0 c2 false (ints (bG 0)) _ (X.out.2.go G2.out.bl);rw[EX.out]at Y;refine Cl 39 Y ?_;clear Y;rintro e w3 ⟨rfl,hb3⟩;have F3:=G2.out.go hb3;have o3:=opc F3;have G3:=Hd F3;clear hb3 F3)
   |(refine Cl 39 (eF A k1 c1 _ (ints (bG n)) _ (X.out.1.go F.out.bl)) ?_;rintro e w2 ⟨rfl,hb2⟩;rw[Dx.out];have F2:=F.out.go hb2;have o2:=opc F2;have G2:=Hd F2;clear hb2 F2)
   |fail)
  refine leavesIn_cons (f:=81) (args:=#[.pointer (some ⟨w.heap.size+3,0,none⟩)]) (by simp) (by simp) (by simp[go_sem]) (fun _ _=>trivial) ?_;refine(BN ⟨w.heap.size+3,0,none⟩ 1 0 [] _ (G3.out.aQ 3 0) (G3.out.zN 3 0)).mono ?_;rintro e u' w'' ⟨rfl,rfl,rfl⟩;have z0:=G3.out.aQ 2 0;have z1:=G3.out.aQ 2 1;have z2:=G3.out.aQ 2 2;have z3:=G3.out.aQ 2 3;have z4:=G3.out.aQ 3 0;refine⟨.tuple #[EP,.int .i64 1],?_,rfl,G3.out.bl.setCell (p:=⟨w.heap.size+3,0,none⟩) (by simp) _⟩;simp[results,Tryz.results103,go_sem,z0,z1,z2,z3,z4]
theorem Fe{n:Int}{w:World}(hn:i64 n):
 CB 66 #[.int .i64 n,.int .i64 0] (.tuple #[EP,.int .i64 1]) w:=by
 refine wid ?_;obtain⟨W1,hW1,F1⟩:=nam ((Fr.nil w).a4 w.heap.size 30);have o1:=opc F1;have HN:=Hd hn;have F:=Hd F1;clear F1 hn;refine ent Tryz.func66 rfl Tryz.ntmps66 ?_
 gi_wp2_with (first
  |(have g:=G3.out;clear g;refine Cl 103 (VB G3.out.2.1 G3.out.2.2 (En HN.out)) ?_;rintro e w4 ⟨rfl,hb4⟩;have F4:=G3.out.1.go hb4;have o4:=opc F4;have q0:=aN (F4.aQ 0 0);have q1:=aN (F4.aQ 0 1);have q2:=aN (F4.aQ 0 2);have q3:=aN (F4.aQ 0 3);have G4:=Hd F4;clear hb4 F4)
  |(have g:=G2.out;clear g;refine Cl 104 (Ih (M:= []) (b_.nil _) (n:=0) (by unfold i64;omega)) ?_;rintro e w3 ⟨u3,rfl,hz3,hb3⟩;have G3:=fB (G2.out.1.go hb3) (ZV.go G2.out.2 hb3) hz3;clear hz3 hb3)
  |(refine Cl 104 (Ih (M:= []) (b_.nil _) (n:=n) HN.out) ?_;rintro e w2 ⟨u2,rfl,hz2,hb2⟩;have G2:=Hd2 (F.out.go hb2) hz2;clear hz2 hb2)
  |fail)
 exact⟨rfl,.tuple #[EP,.int .i64 1],by simp[results,go_sem,o4],rfl,G4.out.bl⟩
theorem mk_any{M:List Nat}{n:Int}{w:World}(hM:b_ M w)(hn:i64 n)(hd:i64 d):
 Calls Tryz.prog 66 #[.int .i64 n,.int .i64 d] w fun e w'=>∃u er,e=.returned (.tuple #[u,.int .i64 er])/\RV w' M u (BG n d)/\Below w.heap.size w w':=by
 by_cases h:d=0;·subst h;refine(Fe hn).mono ?_;rintro e w' ⟨rfl,hb⟩;exact⟨_,1,rfl,by rw[BG,if_pos rfl];exact⟨none,0,0,none,0,0,rfl,Sl.nil0,Sl.nil0⟩,hb⟩
 ·refine(uP hM hn hd h).mono ?_;rintro e w' ⟨u,rfl,hq,hb⟩;exact⟨u,0,rfl,by rw[BG,if_neg h];exact hq.rv,hb⟩
mutual
theorem AZ(nc:Int):∀(x:aU) (acc:List InsR),(mV nc x acc).length=acc.length+nodes x
 | .mk _ _ _ _ l,acc=>by rw[mV,List.length_append,wK nc l acc,nodes,List.length_singleton,Nat.add_assoc]
theorem wK(nc:Int):∀(l:List aU) (acc:List InsR),(gX nc l acc).1.length=acc.length+dh l
 | [],acc=>by rw[gX,dh,Nat.add_zero]
 |x::l,acc=>by rw[gX,dh];show(gX nc l (mV nc x acc)).1.length=_;rw[wK nc l,AZ nc x,Nat.add_assoc]
end
theorem Fg{l:List aU}{y:aU}(acc:List InsR)(h:l[k]?=some y):gX nc (l.take (k+1)) acc=(mV nc y (gX nc (l.take k) acc).1,(gX nc (l.take k) acc).2++ [((mV nc y (gX nc (l.take k) acc).1).length:Int)-1]):=by rw[show l.take (k+1)=l.take k++ [y] by rw[List.take_add_one,h,Option.toList_some],zK]
def rg(l:List Int)(j:Nat):Int:=l.getD j 0
abbrev atC(l:List Int):List Value:= [.int .i64 (rg l 0),.int .i64 (rg l 1),.int .i64 (rg l 2),.int .i64 (rg l 3)]
theorem VD:∀{l:List Int}{k:Nat}(v:Int),l.length=k->k<4->(atC l).set k (.int .i64 v)=atC (l++ [v])
 | [],_,_,rfl,_| [_],_,_,rfl,_| [_,_],_,_,rfl,_| [_,_,_],_,_,rfl,_=>rfl
 |_::_::_::_::l,_,_,rfl,h=>by simp only[List.length_cons]at h;omega
def Rl(y:aU):Prop:=y.l.length<=4/\(y.kind=2\/y.kind=6\/y.kind=8)
theorem ED(nc:Int):∀(l:List aU) (acc:List InsR) (v:Int),v∈(gX nc l acc).2->0<=v/\v<=((acc.length+dh l:Nat):Int)
 | [],acc,v,h=>by rw[gX]at h;cases h
 |x::l,acc,v,h=>by
  rw[gX]at h;have hl:=AZ nc x acc;have hn:=FU x;rw[dh];rcases List.mem_cons.1 h with rfl|h;·omega
  have:=ED nc l _ v h;omega
theorem aak{l:List Int}(h:∀v,v∈l->i64 v)(j:Nat):i64 (rg l j):=by
 rw[rg,List.getD_eq_getElem?_getD]
 cases e:l[j]? with
 |none=>simp[i64]
 |some v=>exact h v (List.mem_of_getElem? e)
abbrev y9(w:World)(M:List Nat):List Nat:=w.heap.size::(w.heap.size+2)::(w.heap.size+3)::M
structure VE(w wr:World)(M:List Nat)(nc:Int)(B:Option Addr)(n c:Nat)(acc:List InsR)(at_:List Int)(xv:List Value):Prop where
 fr:Fr w wr [(w.heap.size, [.int .i64 nc,.slice B n c]),(w.heap.size+1,xv),(w.heap.size+2, [.int .i64 0,.slice none 0 0]),(w.heap.size+3,atC at_)]
 sl:Sl InsR wr (y9 w M) B n c acc
 ne:n=0->B=none
 kp:Keeps (y9 w M) w wr
 bM:b_ (y9 w M) wr
theorem VE.go{w wr wz:World}{M:List Nat}{nc:Int}{B:Option Addr}{n c:Nat}{acc:List InsR}{at_:List Int}{xv:List Value}(h:VE w wr M nc B n c acc at_ xv)(hb:Below wr.heap.size wr wz):VE w wz M nc B n c acc at_ xv:=⟨h.fr.go hb,h.sl.go hb,h.ne,h.kp.trans (Keeps.of_below hb _),h.bM.le hb.size⟩
def CmR(w:World)(M:List Nat)(nc:Int)(xv:List Value)(l:List aU)(acc:List InsR)(m:Nat)(i:Value)(wr:World):Prop:=∃(k:Nat) (B:Option Addr) (n c:Nat),k<=m/\i=.int .i64 k/\Hid (VE w wr M nc B n c (gX nc (l.take k) acc).1 (gX nc (l.take k) acc).2 xv)
attribute [irreducible] CmR
theorem VE.put{w wr:World}{M:List Nat}{B B':Option Addr}{n' c':Nat}{acc':List InsR}{at_:List Int}{xv:List Value}(h:VE w wr M nc B n c acc at_ xv)(hl:at_.length=k)(hk:k<4)(hs:Sl InsR wr (y9 w M) B' (n'+1) c' acc'):
 ∃V W u,wr.setCell ⟨w.heap.size,1,none⟩ (.slice B' (n'+1) c')=V/\V.setCell ⟨w.heap.size+3,k,none⟩ (.int .i64 (n':Int))=W/\VE w W M nc B' (n'+1) c' acc' (at_++ [(n':Int)]) xv/\wr.cell? ⟨w.heap.size,0,none⟩=some (.int .i64 nc)/\V.cell? ⟨w.heap.size+3,k,none⟩=some u/\V.frozen? ⟨w.heap.size+3,k,none⟩=false:=by
 have f1:=(h.fr.only (L':= [(w.heap.size+1,xv),(w.heap.size+2, [.int .i64 0,.slice none 0 0]),(w.heap.size+3,atC at_)]++ [(w.heap.size, [.int .i64 nc,.slice B n c])]) (fun y hy=>by simp at hy |-;rcases hy with rfl|rfl|rfl|rfl<;>simp)).qY (j:=1) (fun b vs hm=>by simp at hm;omega) rfl (.slice B' (n'+1) c');obtain⟨u,hu⟩:=dW (atC at_) k (by simpa using hk);have f2:=(f1.only (L':= [(w.heap.size, [.int .i64 nc,.slice B' (n'+1) c']),(w.heap.size+1,xv),(w.heap.size+2, [.int .i64 0,.slice none 0 0])]++ [(w.heap.size+3,atC at_)]) (fun y hy=>by simp at hy |-;rcases hy with rfl|rfl|rfl|rfl<;>simp)).qY (j:=k) (fun b vs hm=>by simp at hm;omega) hu (.int .i64 (n':Int));have f3:=f1.at_ (w.heap.size+3) (atC at_) (by simp) k u hu;have kp:Keeps (y9 w M) wr _:=((Keeps.refl _ wr).setCell (p:=⟨w.heap.size,1,none⟩) (.inl (by simp)) (.slice B' (n'+1) c')).setCell (p:=⟨w.heap.size+3,k,none⟩) (.inl (by simp)) (.int .i64 (n':Int));rw[VD _ hl hk]at f2;exact⟨_,_,u,rfl,rfl,⟨f2,hs.keep kp,fun e=>by omega,h.kp.trans kp,h.bM.le kp.size⟩,h.fr.aQ 0 0,f3.1,f3.2⟩
set_option maxHeartbeats 8000000 in
theorem EF(nc:Int):∀(x:aU),(∀y,y∈iZ x->Rl y)->∀{M:List Nat}{A B:Option Addr}{m d n c:Nat}{acc:List InsR}{w:World},b_ M w->(i64 x.kind/\i64 x.n/\i64 x.d)->Sl aU w M A m d x.l->Sl InsR w M B n c acc->(n=0->B=none)->n+nodes x<=900->
 Calls Tryz.prog 35 #[.agg #[.int .i64 nc,.slice B n c],.agg #[.int .i64 x.kind,.string x.name,.int .i64 x.n,.int .i64 x.d,.slice A m d]] w (t_ M nc (mV nc x acc) w):=by
 intro x
 induction x using iY with
 |_ x ih=>
 intro hp M A B m d n c acc w hM hi hs ha hB hn;refine wid ?_;have hsm:=hs.small;have hnl:=gV x;obtain⟨hx4,hxk⟩:=hp x (by rw[lW];exact List.mem_cons_self);rw[hs.len]at hx4;have IH:=Hd (fun y (hy:y∈x.l)=> @ih y hy (fun z hz=>hp z (by rw[lW];exact List.mem_cons_of_mem _ (qF hy hz))));have hcE:=NG nc x acc;obtain⟨L,hL⟩:=aC x.l;obtain⟨kd,hkd⟩:=aC x.kind;obtain⟨nm,hnm⟩:=aC x.name;obtain⟨xn,hxn⟩:=aC x.n;obtain⟨xd,hxd⟩:=aC x.d;obtain⟨R,hR⟩:=aC (mV nc x acc);rw[hR,hL,hkd,hxn,hxd]at hcE;rw[hR,hkd,hnm,hxn,hxd];rw[hL]at IH hs hnl;rw[hkd]at hi hxk;rw[hxn,hxd]at hi;clear hL hkd hnm hxn hxd hR ih hp;obtain⟨xv,hxv⟩:∃xv:List Value, [.int .i64 kd,.string nm,.int .i64 xn,.int .i64 xd,.slice A m d]=xv:=⟨_,rfl⟩;obtain⟨W1,hW1,F1⟩:=nam (((((Fr.nil w).a w.heap.size [.int .i64 nc,.slice B n c] 91).a (w.heap.size+1) [.int .i64 kd,.string nm,.int .i64 xn,.int .i64 xd,.slice A m d] 87).a (w.heap.size+2) [.int .i64 0,.slice none 0 0] 91).a (w.heap.size+3) [.int .i64 0,.int .i64 0,.int .i64 0,.int .i64 0] 101);have o1:=opc F1;have up:Keeps (y9 w M) w W1:=Keeps.of_below F1.bl _;have hM1:b_ (y9 w M) W1:=((((hM.le F1.bl.size).cons (F1.mJ 3)).cons (F1.mJ 2)).cons (F1.mJ 0));have HS:=Hd (((hs.more (b:=w.heap.size+3) (by omega)).more (b:=w.heap.size+2) (by omega)).more (Nat.le_refl _));have R0:=Hd (show VE w W1 M nc B n c acc [] [.int .i64 kd,.string nm,.int .i64 xn,.int .i64 xd,.slice A m d]from⟨F1,(((ha.more (b:=w.heap.size+3) (by omega)).more (b:=w.heap.size+2) (by omega)).more (Nat.le_refl _)).keep up,hB,up,hM1⟩);have HM:=Hd2 hs.len ha.len;have HN:=Hd2 hn hnl;have HI:=Hd hi;have HC:=Hd hcE;rw[hxv]at R0;have HXV:=Hd hxv;clear F1 hs ha hB up hM1 hM hn hnl hi hxv hcE;refine ent Tryz.func35 rfl Tryz.ntmps35 ?_;gi_wp2;gi_loopw[15] (fun i wr=>CmR w M nc xv L acc m i wr) (fun i _=>m-(intOf i).toNat);case atStart=>unfold CmR;exact⟨0,B,n,c,Nat.zero_le _,rfl,by rw[List.take_zero,gX];exact R0⟩
 case round=>
  unfold CmR at hrel;obtain⟨k,B',n',c',hk,rfl,hS⟩:=hrel;obtain⟨acc',hacc⟩:=aC (gX nc (L.take k) acc).1;obtain⟨at',hat⟩:=aC (gX nc (L.take k) acc).2;rw[hacc,hat]at hS;have hal:at'.length=k:=by rw[<-hat,AV,List.length_take,HM.out.1];omega
  have hcl:acc'.length=n+dh (L.take k):=by rw[<-hacc,wK,HM.out.2]
  have hnn:=hS.out.sl.len;have F2:=hS.out.fr;rw[<-HXV.out]at F2;have o2:=opc F2;by_cases hlt:k<m
  ·obtain⟨y,hy⟩:=dW L k (by rw[HM.out.1];exact hlt);have hk4:(k:Int)<4:=by omega
   obtain⟨b,o,B2,n2,d2,rfl,⟨h0,h1,h2,h3,h4⟩,hyi,hys⟩:=(HS.out.keep hS.out.kp).qQ hy;obtain⟨W5,CZ,hb5,F5⟩:=fP (w:=wr) (F2.a wr.heap.size [.int .i64 y.kind,.string y.name,.int .i64 y.n,.int .i64 y.d,.slice B2 n2 d2] 87);have o5:=opc F5;have hsz:n'+nodes y<=900:=by have h1:=Cb hy;have h2:=vI L (k+1);have h3:=HN.out;omega
   have HY:=Hd (IH.out y (List.mem_of_getElem? hy) (hS.out.bM.le hb5.size) hyi (hys.go hb5) (hS.out.sl.go hb5) hS.out.ne hsz);have HST:=fB (Fg (nc:=nc) acc hy) hal (show k<4 by omega);have S5:=Hd (hS.out.go hb5);clear hy hys hyi F2 F5 hb5 hsz hcl hal
   gi_wp2_with (first
    |(refine Cl 35 HY.out ?_;intro e w6 hw;unfold t_ at hw;obtain⟨A6,n6,c6,rfl,s6,hb6⟩:=hw;obtain⟨V7,W7,u7,hV7,XM,S7,p0,p1,p2⟩:=(S5.out.go hb6).put HST.out.2.1 HST.out.2.2 s6;have o6:=opc (S5.out.go hb6).fr;have q0:=aN p0;have HS7:=Hd2 S7 s6.len;clear S7 s6 hb6 p0)
    |fail)
   exact⟨by unfold CmR;refine⟨k+1,A6,n6+1,c6,by omega,by go_num,?_⟩;rw[HST.out.1,hacc,hat];show Hid (VE w W7 M nc A6 (n6+1) c6 (mV nc y acc') (at'++ [((mV nc y acc').length:Int)-1]) xv);rw[HS7.out.2,show(((n6+1:Nat):Int)-1)=(n6:Int) by omega];exact Hd HS7.out.1,by simp[intOf];omega⟩
  ·obtain rfl:k=m:=by omega
   have hall:L.take k=L:=List.take_of_length_le (by rw[HM.out.1];exact Nat.le_refl _);rw[hall]at hacc hat hcl;have HE:=Hd (show R=acc'++ [insOf nc kd xn xd at'] by rw[<-hacc,<-hat];exact HC.out);have HA:=Hd (fun j=>aak (l:=at') (fun v hv=>by have h1:=ED nc L acc v (by rw[hat];exact hv);have h2:=HN.out;have h3:=HM.out.2;unfold i64;omega) j);have uF:n'<=999:=by have:=HN.out;omega
   clear hacc hat hall hlt hk hal;rcases hxk with rfl|rfl|rfl
   ·gi_wp2
    (refine Cl 66 (mk_any hS.out.bM HI.out.2.1 HI.out.2.2) ?_;rintro e w8 ⟨u8,er,rfl,⟨A8,n8,c8,B8,m8,d8,rfl,XB,s82⟩,hb8⟩;obtain⟨p8,Rn⟩:=aC (BG xn xd).1.1;obtain⟨q8,hq8⟩:=aC (BG xn xd).2.1;rw[Rn,hq8];have S8:=hS.out.go hb8;have F8:=S8.fr;have TJ:=F8.mJ 3;rw[<-HXV.out]at F8;have o8:=opc F8;obtain⟨Nj,aal,uU,F10⟩:=fP (w:=w8) ((F8.a w8.heap.size [.bool p8,.slice A8 n8 c8,.bool q8,.slice B8 m8 d8] 30).a (w8.heap.size+1) (wC 0 (rg at' 0) (rg at' 1) (rg at' 2) (rg at' 3) false none 0 0 false none 0 0) 38);have o10:=opc F10;have q5:=aN (F10.aQ 5 5);have q6:=aN (F10.aQ 5 6);have q7:=aN (F10.aQ 5 7);have q9:=aN (F10.aQ 5 8);have z1:=((XB.more (b:=w8.heap.size+1) (by omega)).go uU);have z2:=((s82.more (b:=w8.heap.size+1) (by omega)).go uU);have z3:=((S8.sl.more (b:=w8.heap.size+1) (by omega)).go uU);have HZ:=fB z1 z2 z3;have HQ:=Hd2 Rn hq8;have HF:=fB F10 S8.ne (S8.bM.le uU.size);have v0:=aF (Mr:= [w8.heap.size+1]) (b:=w.heap.size+1) (o:=2) (by simp;omega) (F10.aQ 1 2);clear XB s82 hb8 S8 F8 z1 z2 z3 Rn hq8 uU F10);gi_wp2;obtain⟨V,hV⟩:=aC ((Nj.setCell ⟨w8.heap.size+1,0,none⟩ (.int .i64 2)).setCell ⟨w8.heap.size+1,1,none⟩ (.int .i64 xn)).drew;have FV:Fr w V ([(w.heap.size, [.int .i64 nc,.slice B' n' c']),(w.heap.size+2, [.int .i64 0,.slice none 0 0])]++ [(w8.heap.size+1,wC 2 xn (rg at' 1) (rg at' 2) (rg at' 3) false none 0 0 false none 0 0)]):=by
     rw[<-hV];exact(((HF.out.1.only (L':= [(w.heap.size, [.int .i64 nc,.slice B' n' c']),(w.heap.size+2, [.int .i64 0,.slice none 0 0])]++ [(w8.heap.size+1,wC 0 (rg at' 0) (rg at' 1) (rg at' 2) (rg at' 3) false none 0 0 false none 0 0)]) (fun y hy=>by simp at hy |-;rcases hy with rfl|rfl|rfl<;>simp)).qY (j:=0) (fun b vs hm=>by simp at hm;have:=TJ;omega) rfl (.int .i64 2)).qY (j:=1) (fun b vs hm=>by simp at hm;have:=TJ;omega) rfl (.int .i64 xn)).drew
    have oV:=opc FV;have HV:=Hd FV;have kV:Keeps ((w8.heap.size+1)::y9 w M) Nj V:=by rw[<-hV];exact(((Keeps.refl _ Nj).setCell (p:=⟨w8.heap.size+1,0,none⟩) (.inl (by simp)) _).setCell (p:=⟨w8.heap.size+1,1,none⟩) (.inl (by simp)) _).drew
    have XH:=(HZ.out.2.2.keep kV).less (M':=y9 w M) fun q hq=>List.mem_cons_of_mem _ hq;have XL:Rep.rd V (y9 w M) (insOf nc 2 xn xd at') (wC 2 xn (rg at' 1) (rg at' 2) (rg at' 3) false none 0 0 false none 0 0):=by rw[show insOf nc 2 xn xd at'=(2,xn,rg at' 1,rg at' 2,rg at' 3,iG) by simp[insOf,rg]];exact zM (r:=iG) ⟨by unfold i64;omega,HI.out.2.1,HA.out 1,HA.out 2,HA.out 3⟩ Sl.nil0 Sl.nil0
    have bV:b_ (y9 w M) V:=HF.out.2.2.le kV.size;have HX:=h_ bV XH XL HF.out.2.1;clear FV kV XH XL bV;refine aP [w8.heap.size+1] 5 (by kernel_rfl) (by kernel_rfl) ?_;refine ay 0 ?_;refine ay 1 ?_;refine ay 2 ?_;refine eU 3 fun K hK=>?_;gi_wp2;refine⟨(Keeps.refl [w8.heap.size+1] _).setCell (p:=⟨w8.heap.size+1,0,none⟩) (.inl (by simp)) _,?_⟩;refine lit ?_;refine ay 4 ?_;refine iq 1 ?_;refine jW fun K hK K' hK'=>?_;gi_wp2;refine tail_nil _ ?_;simp only[cu];gi_wp2;refine Cl 67 (Au HX.out.1 HX.out.2.1 HX.out.2.2.2 uF HX.out.2.2.1) ?_
    (intro e w12 hw;unfold t_ at hw;obtain⟨A9,n9,c9,rfl,s9,Ns⟩:=hw;have F9:=((HV.out.go Ns).only (L':= [(w.heap.size, [.int .i64 nc,.slice B' n' c'])]++ [(w.heap.size+2, [.int .i64 0,.slice none 0 0])]) (fun y hy=>by simp at hy |-;rcases hy with rfl|rfl<;>simp));have o9:=opc F9;have RF:=((Keeps.refl (y9 w M) w12).setCell (p:=⟨w.heap.size+2,0,none⟩) (.inl (by simp)) (.int .i64 nc)).setCell (p:=⟨w.heap.size+2,1,none⟩) (.inl (by simp)) (.slice A9 (n9+1) c9);obtain⟨WE,X7⟩:=aC ((w12.setCell ⟨w.heap.size+2,0,none⟩ (.int .i64 nc)).setCell ⟨w.heap.size+2,1,none⟩ (.slice A9 (n9+1) c9));have FE:Fr w WE ([(w.heap.size, [.int .i64 nc,.slice B' n' c'])]++ [(w.heap.size+2, [.int .i64 nc,.slice A9 (n9+1) c9])]):=by
      exact adA
     rw[X7]at RF;have HL:=Hd2 FE ((s9.keep RF).less (M':=M) (fun q hq=>by simp[y9,hq]));clear F9 FE RF s9 Ns)
    gi_wp2;have oE:=opc HL.out.1;refine⟨rfl,.tuple #[.agg #[.int .i64 nc,.slice A9 (n9+1) c9],.int .i64 (n9:Int)],by simp[results,go_sem,oE],?_⟩;unfold t_;exact⟨_,_,_,rfl,by rw[HE.out];exact HL.out.2,HL.out.1.bl⟩
   ·gi_wp2
    (refine Cl 66 (mk_any hS.out.bM HI.out.2.1 HI.out.2.2) ?_;rintro e w8 ⟨u8,er,rfl,⟨A8,n8,c8,B8,m8,d8,rfl,XB,s82⟩,hb8⟩;obtain⟨p8,Rn⟩:=aC (BG xn xd).1.1;obtain⟨q8,hq8⟩:=aC (BG xn xd).2.1;rw[Rn,hq8];have S8:=hS.out.go hb8;have F8:=S8.fr;have TJ:=F8.mJ 3;rw[<-HXV.out]at F8;have o8:=opc F8;obtain⟨Nj,aal,uU,F10⟩:=fP (w:=w8) ((F8.a w8.heap.size [.bool p8,.slice A8 n8 c8,.bool q8,.slice B8 m8 d8] 30).a (w8.heap.size+1) (wC 0 (rg at' 0) (rg at' 1) (rg at' 2) (rg at' 3) false none 0 0 false none 0 0) 38);have o10:=opc F10;have q5:=aN (F10.aQ 5 5);have q6:=aN (F10.aQ 5 6);have q7:=aN (F10.aQ 5 7);have q9:=aN (F10.aQ 5 8);have z1:=((XB.more (b:=w8.heap.size+1) (by omega)).go uU);have z2:=((s82.more (b:=w8.heap.size+1) (by omega)).go uU);have z3:=((S8.sl.more (b:=w8.heap.size+1) (by omega)).go uU);have HZ:=fB z1 z2 z3;have HQ:=Hd2 Rn hq8;have HF:=fB F10 S8.ne (S8.bM.le uU.size)
     skip
     clear XB s82 hb8 S8 F8 z1 z2 z3 Rn hq8 uU F10)
    obtain⟨V,hV⟩:=aC (Nj.setCell ⟨w8.heap.size+1,0,none⟩ (.int .i64 3));have FV:Fr w V ([(w.heap.size, [.int .i64 nc,.slice B' n' c']),(w.heap.size+2, [.int .i64 0,.slice none 0 0])]++ [(w8.heap.size+1,wC 3 (rg at' 0) (rg at' 1) (rg at' 2) (rg at' 3) false none 0 0 false none 0 0)]):=by rw[<-hV];exact(HF.out.1.only (L':= [(w.heap.size, [.int .i64 nc,.slice B' n' c']),(w.heap.size+2, [.int .i64 0,.slice none 0 0])]++ [(w8.heap.size+1,wC 0 (rg at' 0) (rg at' 1) (rg at' 2) (rg at' 3) false none 0 0 false none 0 0)]) (fun y hy=>by simp at hy |-;rcases hy with rfl|rfl|rfl<;>simp)).qY (j:=0) (fun b vs hm=>by simp at hm;have:=TJ;omega) rfl (.int .i64 3)
    have oV:=opc FV;have HV:=Hd FV;have kV:Keeps ((w8.heap.size+1)::y9 w M) Nj V:=by rw[<-hV];exact(Keeps.refl _ Nj).setCell (p:=⟨w8.heap.size+1,0,none⟩) (.inl (by simp)) _
    have XH:=(HZ.out.2.2.keep kV).less (M':=y9 w M) fun q hq=>List.mem_cons_of_mem _ hq;have XL:Rep.rd V (y9 w M) (insOf nc 6 xn xd at') (wC 3 (rg at' 0) (rg at' 1) (rg at' 2) (rg at' 3) false none 0 0 false none 0 0):=by rw[show insOf nc 6 xn xd at'=(3,rg at' 0,rg at' 1,rg at' 2,rg at' 3,iG) by simp[insOf,rg]];exact zM (r:=iG) ⟨by unfold i64;omega,HA.out 0,HA.out 1,HA.out 2,HA.out 3⟩ Sl.nil0 Sl.nil0
    have bV:b_ (y9 w M) V:=HF.out.2.2.le kV.size;have HX:=h_ bV XH XL HF.out.2.1;clear FV kV XH XL bV;gi_wp2;refine Cl 67 (Au HX.out.1 HX.out.2.1 HX.out.2.2.2 uF HX.out.2.2.1) ?_
    (intro e w12 hw;unfold t_ at hw;obtain⟨A9,n9,c9,rfl,s9,Ns⟩:=hw;have F9:=((HV.out.go Ns).only (L':= [(w.heap.size, [.int .i64 nc,.slice B' n' c'])]++ [(w.heap.size+2, [.int .i64 0,.slice none 0 0])]) (fun y hy=>by simp at hy |-;rcases hy with rfl|rfl<;>simp));have o9:=opc F9;have RF:=((Keeps.refl (y9 w M) w12).setCell (p:=⟨w.heap.size+2,0,none⟩) (.inl (by simp)) (.int .i64 nc)).setCell (p:=⟨w.heap.size+2,1,none⟩) (.inl (by simp)) (.slice A9 (n9+1) c9);obtain⟨WE,X7⟩:=aC ((w12.setCell ⟨w.heap.size+2,0,none⟩ (.int .i64 nc)).setCell ⟨w.heap.size+2,1,none⟩ (.slice A9 (n9+1) c9));have FE:Fr w WE ([(w.heap.size, [.int .i64 nc,.slice B' n' c'])]++ [(w.heap.size+2, [.int .i64 nc,.slice A9 (n9+1) c9])]):=by
      exact adA
     rw[X7]at RF;have HL:=Hd2 FE ((s9.keep RF).less (M':=M) (fun q hq=>by simp[y9,hq]));clear F9 FE RF s9 Ns)
    gi_wp2;have oE:=opc HL.out.1;refine⟨rfl,.tuple #[.agg #[.int .i64 nc,.slice A9 (n9+1) c9],.int .i64 (n9:Int)],by simp[results,go_sem,oE],?_⟩;unfold t_;exact⟨_,_,_,rfl,by rw[HE.out];exact HL.out.2,HL.out.1.bl⟩
   gi_wp2
   (refine Cl 66 (mk_any hS.out.bM HI.out.2.1 HI.out.2.2) ?_;rintro e w8 ⟨u8,er,rfl,⟨A8,n8,c8,B8,m8,d8,rfl,XB,s82⟩,hb8⟩;obtain⟨p8,Rn⟩:=aC (BG xn xd).1.1;obtain⟨q8,hq8⟩:=aC (BG xn xd).2.1;rw[Rn,hq8];have S8:=hS.out.go hb8;have F8:=S8.fr;have TJ:=F8.mJ 3;rw[<-HXV.out]at F8;have o8:=opc F8;obtain⟨Nj,aal,uU,F10⟩:=fP (w:=w8) ((F8.a w8.heap.size [.bool p8,.slice A8 n8 c8,.bool q8,.slice B8 m8 d8] 30).a (w8.heap.size+1) (wC 0 (rg at' 0) (rg at' 1) (rg at' 2) (rg at' 3) false none 0 0 false none 0 0) 38);have o10:=opc F10;have q5:=aN (F10.aQ 5 5);have q6:=aN (F10.aQ 5 6);have q7:=aN (F10.aQ 5 7);have q9:=aN (F10.aQ 5 8);have z1:=((XB.more (b:=w8.heap.size+1) (by omega)).go uU);have z2:=((s82.more (b:=w8.heap.size+1) (by omega)).go uU);have z3:=((S8.sl.more (b:=w8.heap.size+1) (by omega)).go uU);have HZ:=fB z1 z2 z3;have HQ:=Hd2 Rn hq8;have HF:=fB F10 S8.ne (S8.bM.le uU.size);have v0:=aF (Mr:= [w8.heap.size+1]) (b:=w8.heap.size) (o:=0) (by simp) (F10.aQ 4 0);have v1:=aF (Mr:= [w8.heap.size+1]) (b:=w8.heap.size) (o:=1) (by simp) (F10.aQ 4 1);have v2:=aF (Mr:= [w8.heap.size+1]) (b:=w8.heap.size) (o:=2) (by simp) (F10.aQ 4 2);have v3:=aF (Mr:= [w8.heap.size+1]) (b:=w8.heap.size) (o:=3) (by simp) (F10.aQ 4 3);clear XB s82 hb8 S8 F8 z1 z2 z3 Rn hq8 uU F10);gi_wp2;obtain⟨V,hV⟩:=aC (((((Nj.setCell ⟨w8.heap.size+1,0,none⟩ (.int .i64 5)).setCell ⟨w8.heap.size+1,5,none⟩ (.bool p8)).setCell ⟨w8.heap.size+1,6,none⟩ (.slice A8 n8 c8)).setCell ⟨w8.heap.size+1,7,none⟩ (.bool q8)).setCell ⟨w8.heap.size+1,8,none⟩ (.slice B8 m8 d8)).drew;have FV:Fr w V ([(w.heap.size, [.int .i64 nc,.slice B' n' c']),(w.heap.size+2, [.int .i64 0,.slice none 0 0])]++ [(w8.heap.size+1,wC 5 (rg at' 0) (rg at' 1) (rg at' 2) (rg at' 3) p8 A8 n8 c8 q8 B8 m8 d8)]):=by
    rw[<-hV];exact((((((HF.out.1.only (L':= [(w.heap.size, [.int .i64 nc,.slice B' n' c']),(w.heap.size+2, [.int .i64 0,.slice none 0 0])]++ [(w8.heap.size+1,wC 0 (rg at' 0) (rg at' 1) (rg at' 2) (rg at' 3) false none 0 0 false none 0 0)]) (fun y hy=>by simp at hy |-;rcases hy with rfl|rfl|rfl<;>simp)).qY (j:=0) (fun b vs hm=>by simp at hm;have:=TJ;omega) rfl (.int .i64 5)).qY (j:=5) (fun b vs hm=>by simp at hm;have:=TJ;omega) rfl (.bool p8)).qY (j:=6) (fun b vs hm=>by simp at hm;have:=TJ;omega) rfl (.slice A8 n8 c8)).qY (j:=7) (fun b vs hm=>by simp at hm;have:=TJ;omega) rfl (.bool q8)).qY (j:=8) (fun b vs hm=>by simp at hm;have:=TJ;omega) rfl (.slice B8 m8 d8)).drew
   have oV:=opc FV;have HV:=Hd FV;have kV:Keeps ((w8.heap.size+1)::y9 w M) Nj V:=by rw[<-hV];exact((((((Keeps.refl _ Nj).setCell (p:=⟨w8.heap.size+1,0,none⟩) (.inl (by simp)) _).setCell (p:=⟨w8.heap.size+1,5,none⟩) (.inl (by simp)) _).setCell (p:=⟨w8.heap.size+1,6,none⟩) (.inl (by simp)) _).setCell (p:=⟨w8.heap.size+1,7,none⟩) (.inl (by simp)) _).setCell (p:=⟨w8.heap.size+1,8,none⟩) (.inl (by simp)) _).drew
   have XH:=(HZ.out.2.2.keep kV).less (M':=y9 w M) fun q hq=>List.mem_cons_of_mem _ hq;have XL:Rep.rd V (y9 w M) (insOf nc 8 xn xd at') (wC 5 (rg at' 0) (rg at' 1) (rg at' 2) (rg at' 3) p8 A8 n8 c8 q8 B8 m8 d8):=by rw[show insOf nc 8 xn xd at'=(5,rg at' 0,rg at' 1,rg at' 2,rg at' 3,BG xn xd) by simp[insOf,rg]];exact HQ.out.1▸HQ.out.2▸zM (r:=BG xn xd) ⟨by unfold i64;omega,HA.out 0,HA.out 1,HA.out 2,HA.out 3⟩ ((HZ.out.1.keep kV).less fun q hq=>List.mem_cons_of_mem _ hq) ((HZ.out.2.1.keep kV).less fun q hq=>List.mem_cons_of_mem _ hq)
   have bV:b_ (y9 w M) V:=HF.out.2.2.le kV.size;have HX:=h_ bV XH XL HF.out.2.1;clear FV kV XH XL bV;refine aP [w8.heap.size+1] 4 (by kernel_rfl) (by kernel_rfl) ?_;refine ay 0 ?_;refine ay 1 ?_;refine eU 2 fun K hK=>?_;gi_wp2;refine⟨(Keeps.refl [w8.heap.size+1] _).setCell (p:=⟨w8.heap.size+1,0,none⟩) (.inl (by simp)) _,?_⟩;refine lit ?_;refine ay 3 ?_;refine iq 1 ?_;refine jW fun K hK K' hK'=>?_;gi_wp2;refine tail_nil _ ?_;simp only[cu];gi_wp2;refine Cl 67 (Au HX.out.1 HX.out.2.1 HX.out.2.2.2 uF HX.out.2.2.1) ?_
   (intro e w12 hw;unfold t_ at hw;obtain⟨A9,n9,c9,rfl,s9,Ns⟩:=hw;have F9:=((HV.out.go Ns).only (L':= [(w.heap.size, [.int .i64 nc,.slice B' n' c'])]++ [(w.heap.size+2, [.int .i64 0,.slice none 0 0])]) (fun y hy=>by simp at hy |-;rcases hy with rfl|rfl<;>simp));have o9:=opc F9;have RF:=((Keeps.refl (y9 w M) w12).setCell (p:=⟨w.heap.size+2,0,none⟩) (.inl (by simp)) (.int .i64 nc)).setCell (p:=⟨w.heap.size+2,1,none⟩) (.inl (by simp)) (.slice A9 (n9+1) c9);obtain⟨WE,X7⟩:=aC ((w12.setCell ⟨w.heap.size+2,0,none⟩ (.int .i64 nc)).setCell ⟨w.heap.size+2,1,none⟩ (.slice A9 (n9+1) c9));have FE:Fr w WE ([(w.heap.size, [.int .i64 nc,.slice B' n' c'])]++ [(w.heap.size+2, [.int .i64 nc,.slice A9 (n9+1) c9])]):=by
     exact adA
    rw[X7]at RF;have HL:=Hd2 FE ((s9.keep RF).less (M':=M) (fun q hq=>by simp[y9,hq]));clear F9 FE RF s9 Ns)
   gi_wp2;have oE:=opc HL.out.1;refine⟨rfl,.tuple #[.agg #[.int .i64 nc,.slice A9 (n9+1) c9],.int .i64 (n9:Int)],by simp[results,go_sem,oE],?_⟩;unfold t_;exact⟨_,_,_,rfl,by rw[HE.out];exact HL.out.2,HL.out.1.bl⟩
end
section
namespace U
open Go.RowKit Go.Shelf
attribute [local go_sem] Oper.semAt_some
section
variable {M:List Nat}{r:aS}{s1 s2 s3 s4 s5 s6 s7:dK}{i:Nat}{x:aJ}{w:World}
theorem Fh(hr:dG w M r s1 s2 s3 s4 s5 s6 s7)(hs:Sound r)(hx:r.rounds[i]?=some x)(hp:x.2.2.2.2.1=false)(hc:∀y,y∈iZ (au x)->Rl y)(hn:nodes (au x)<=900)(ht:Tab w)(hM:b_ M w):
 Calls Tryz.prog 16 #[.agg (aV r s1 s2 s3 s4 s5 s6 s7).toArray,.int .i64 (i:Int)] w fun e w'=>∃A n c,e=.returned (.tuple #[.slice A n c,.int .i64 0])/\Sl InsR w' M A n c (mV (r.aT.length:Int) (au x) [])/\Below w.heap.size w w':=by
 refine wid ?_;obtain⟨G,F',⟨rk,T⟩,hb⟩:=hs;obtain⟨A1,n1,d1⟩:=s1;obtain⟨A5,n5,d5⟩:=s5;have hcl:r.aT.length=n1:=hr.aT.len;have hrl:r.rounds.length=n5:=hr.rounds.len;have hi5:(i:Int)<(n5:Int):=by have:=(List.getElem?_eq_some_iff.1 hx).1;omega
 have sm1:n1<=140737488355328:=hr.aT.small;have sm5:n5<=140737488355328:=hr.rounds.small;obtain⟨W1,hW1,F1⟩:=nam ((Fr.nil w).a w.heap.size (aV r ⟨A1,n1,d1⟩ s2 s3 s4 ⟨A5,n5,d5⟩ s6 s7) 52);have o1:=opc F1;have HC:=Hd (Pq (hr.go F1.bl) G F' T hb (tab_below ht F1.bl) (hM.le F1.bl.size));have F:=Hd F1;have H:=Hd5 hr hx hp hM hcl;have HK:=Hd2 hc hn;rw[hcl];clear F1 hr G F' T hb hx hp hM ht hc hn hcl hrl;refine ent Tryz.func16 rfl Tryz.ntmps16 ?_
 gi_wp2_with (first
  |(refine Cl 34 HC.out ?_;rintro e w2 ⟨rfl,hb2⟩;have F2:=F.out.go hb2;have o2:=opc F2;obtain⟨b,o,B,m,d,rfl,⟨-,-,-,-,c4,-⟩,⟨c6,c7,c8,c9,c10⟩,-,-,hxi,hxs⟩:=Sl.iw (H.out.1.go F2.bl).rounds H.out.2.1;rw[H.out.2.2.1]at c4;have HY:=Hd (fun V N (x9:Below w2.heap.size w2 V) (hN:b_ N V) (hs:Sl aU w2 N B m d (au x).l)=>EF (n1:Int) (au x) HK.out.1 (M:=N) (B:=none) (n:=0) (c:=0) (acc:= []) hN hxi (hs.go x9) Sl.nil0 (fun _=>rfl) (by have:=HK.out.2;omega));have HS:=Hd2 hxs (H.out.2.2.2.1.le F2.bl.size);obtain⟨sb,hsb⟩:=aC w2.heap.size;have uK:=Hd hsb;clear hsb;have v0:=bQ uK.out (F2.aQ 0 1);have v1:=bQ uK.out (F2.aQ 0 5);have v2:=bQ uK.out c6;have v3:=bQ uK.out c7;have v4:=bQ uK.out c8;have v5:=bQ uK.out c9;have v6:=bQ uK.out c10;have G2:=Hd F2;clear hb2 F2 c6 c7 c8 c9 c10 hxi hxs)
  |fail)
 refine aP sb 16 (by kernel_rfl) (by kernel_rfl) ?_;refine ay 0 ?_;refine ay 1 ?_;refine ay 2 ?_;refine ay 3 ?_;refine ay 4 ?_;refine ay 5 ?_;refine ay 6 ?_;refine ay 7 ?_;refine ay 8 ?_;refine ay 9 ?_;refine oQ 10 [14] (by kernel_rfl) (dN (by decide) rfl ?_ (fun K hK=>?_) (dN (by decide) rfl ?_ (fun K hK=>?_) gU));·exact wy
 rotate_left;·exact wy
 rotate_left;case' _=>
  gi_wp2;refine Cl 35 (HY.out _ M (Below.refl _ _).drew HS.out.2 HS.out.1) ?_;intro e w3 hw;unfold t_ at hw;obtain⟨A3,n3,c3,rfl,s3,hb3⟩:=hw;refine hK _ _ ⟨?_,?_⟩;clear hK K;·exact Keeps.of_below hb3 _
  refine lit ?_;refine ay 11 ?_;refine ay 12 ?_;refine ay 13 ?_;obtain⟨WZ,hV⟩:=aC (w3.alloc (.cells #[.int .i64 0,.slice none 0 0] 91));have x9:Below w3.heap.size w3 WZ:=by rw[<-hV];exact bel
  have FV:=(G2.out.drew.go hb3).al w3.heap.size [.int .i64 0,.slice none 0 0] 91 rfl;rw[hV]at FV;obtain⟨y,hy⟩:=aC w3.heap.size;have hsz:=hb3.size;refine eU 14 fun K hK=>?_;gi_wp2;refine⟨Keeps.of_below x9 _,?_⟩;refine lit ?_;try rw[hy]
  rw[hy]at FV hsz;have HZ:=fB FV ((s3.more (Nat.le_of_eq hy)).go x9) (show sb<=y by rw[<-uK.out];exact hsz);clear FV hsz s3 x9 hV hy hb3
 rotate_left;case' _=>
  obtain⟨V,hV⟩:=aC (w2.drew.alloc (.cells #[.int .i64 0,.slice none 0 0] 91));have x9:Below w2.drew.heap.size w2.drew V:=by rw[<-hV];exact bel
  have FV:=G2.out.drew.al w2.heap.size [.int .i64 0,.slice none 0 0] 91 rfl;rw[hV]at FV;obtain⟨y,hy⟩:=aC w2.heap.size;gi_wp2;refine⟨Keeps.of_below x9 _,?_⟩;refine lit ?_;try rw[hy]
  rw[hy]at FV;refine eU 10 fun K hK=>?_;gi_wp2;refine Cl 35 (HY.out _ (w2.heap.size::M) ((Below.refl _ _).drew.trans x9) ((HS.out.2.le x9.size).cons (by rw[hy];exact FV.lst)) (HS.out.1.more (Nat.le_refl _))) ?_;intro e WZ hw;unfold t_ at hw;obtain⟨A3,n3,c3,rfl,s3,hb3⟩:=hw;refine hK _ _ ⟨?_,?_⟩;clear hK K;·exact Keeps.of_below hb3 _
  refine lit ?_;rw[hy]at s3;have HZ:=fB (FV.go hb3) s3 (show sb<=y by rw[<-uK.out,<-hy];exact Nat.le_refl _);clear FV s3 x9 hV hy hb3;refine ay 11 ?_;refine ay 12 ?_;refine ay 13 ?_
 all_goals
  obtain⟨W6,h6⟩:=aC ((WZ.setCell ⟨y,0,none⟩ (.int .i64 (n1:Int))).setCell ⟨y,1,none⟩ (.slice A3 (n3+1) c3));have FZ:=HZ.out.1.only (L':= []++ [(y, [.int .i64 0,.slice none 0 0])]) (fun q hq=>by simp at hq |-;exact .inr hq);have F6:Fr w W6 ([]++ [(y, [.int .i64 (n1:Int),.slice A3 (n3+1) c3])]):=by rw[<-h6];exact(FZ.qY (j:=0) (fun b vs hm=>by simp at hm) rfl (.int .i64 (n1:Int))).qY (j:=1) (fun b vs hm=>by simp at hm) rfl (.slice A3 (n3+1) c3)
  have k6:Go.Proofs.YtefnknhjlejalaaGreatDoor.Keeps [y] WZ W6:=by rw[<-h6];exact((Go.Proofs.YtefnknhjlejalaaGreatDoor.Keeps.refl _ _).setCell (p:=⟨y,0,none⟩) (.inl (by simp)) _).setCell (p:=⟨y,1,none⟩) (.inl (by simp)) _
  have oZ:=opc FZ;have o6:=opc F6;have HQ:=fB ((HZ.out.2.1.keep (k6.mono fun q hq=>by rw[List.mem_singleton]at hq;subst hq;exact List.mem_cons_self)).less (M':=M) fun q hq=>List.mem_cons_of_mem _ hq) F6.bl (Keeps.sU k6 HZ.out.2.2);clear FZ F6 k6;refine eU 15 fun K hK=>?_;gi_wp2;refine⟨HQ.out.2.2,?_⟩;refine lit ?_;refine iq 1 ?_;refine jW fun K hK K' hK'=>?_;gi_wp2;refine tail_nil _ ?_;simp only[cu];gi_wp2;exact⟨rfl,.tuple #[.slice A3 (n3+1) c3,.int .i64 0],by simp[results,go_sem],_,_,_,rfl,HQ.out.1,HQ.out.2.1⟩
theorem EG{i:Int}(hr:dG w M r s1 s2 s3 s4 s5 s6 s7)(hs:Sound r)(hi:0<=i)(hx:(r.rounds.length:Int)<=i)(ht:Tab w)(hM:b_ M w):
 CB 16 #[.agg (aV r s1 s2 s3 s4 s5 s6 s7).toArray,.int .i64 i] (.tuple #[.slice none 0 0,.int .i64 1]) w:=by
 refine wid ?_;obtain⟨G,F',⟨rk,T⟩,hb⟩:=hs;obtain⟨A5,n5,d5⟩:=s5;have hrl:r.rounds.length=n5:=hr.rounds.len;have hi0:¬i<0:=by omega
 have hi5:(n5:Int)<=i:=by omega
 obtain⟨W1,hW1,F1⟩:=nam ((Fr.nil w).a w.heap.size (aV r s1 s2 s3 s4 ⟨A5,n5,d5⟩ s6 s7) 52);have o1:=opc F1;have HC:=Hd (Pq (hr.go F1.bl) G F' T hb (tab_below ht F1.bl) (hM.le F1.bl.size));have F:=Hd F1;clear F1 hr G F' T hb hM ht hx hi hrl;refine ent Tryz.func16 rfl Tryz.ntmps16 ?_
 gi_wp2_with (first
  |(refine Cl 34 HC.out ?_;rintro e w2 ⟨rfl,hb2⟩;have F2:=F.out.go hb2;have o2:=opc F2;have G2:=Hd F2;clear hb2 F2)
  |fail)
 exact⟨rfl,.tuple #[.slice none 0 0,.int .i64 1],by simp[results,go_sem],rfl,G2.out.bl⟩
end
end U
end
end Go.Proofs.YtefnknhjlejalaaGreatDoor
