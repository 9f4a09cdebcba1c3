/- Lemmas. -/
import Derived.Test.YtfdmnogfflcllaaGreatDoorM45
set_option linter.unusedVariables false
set_option linter.unusedSimpArgs false
set_option maxRecDepth 100000
set_option maxHeartbeats 20000000
namespace Go.Proofs.YtfdmnogfflcllaaGreatDoor
open Go.Proofs.Tryz Go.RowKit Go.Shelf
variable {w:World}{M:List Nat}{k:Nat}
section
attribute [local go_sem] cK
theorem acu:Flat Int:=fun h _ _=>h
theorem abj{α:Type} [kJ α] {e:TypeId}{base g n cap:Nat}{xs:List α}{x:α}(h:bD α e w M base (.slice (some ⟨g,0,none⟩) n cap) n xs)(hz:Rep.sz α=1)(hk:xs[k]?=some x){u:Value}(hu:∀es,Rep.rd w (g::M) x es->es= [u]):
 w.cell? ⟨g,k,none⟩=some u/\w.frozen? ⟨g,k,none⟩=false:=by
 obtain⟨es,b,d⟩:=h.get hk;have:=d 0 u (by rw[hu es b];rfl)
 rwa [hz,ij]at this
theorem adW{c:dS}{t1 t2 t3 t4:dK}{i:Nat}{m:Int}{l:List Int}(hM:b_ M w)(hc:Sl (List Int) w M t1.A t1.n t1.c c.marks)(hl:c.marks[i]?=some l)(hk:k<l.length)(hm:i64 m)(hn:c.marks.length<=1000)(hll:l.length<=1000):
 Calls prog 17 #[.agg (dI t1 t2 t3 t4).toArray,.int .i64 i,.int .i64 k,.int .i64 m] w fun e w'=>∃s:dK,e=.returned (.agg (dI s t2 t3 t4).toArray)/\Sl (List Int) w' M s.A s.n s.c (aw c.marks (i,k) m)/\Below w w w':=by
 refine wid ?_;obtain⟨A,n,G⟩:=t1;have N:Sl (List Int) w M A n G c.marks:=hc;have ap:c.marks.length=n:=N.len;have an:=(bj.1 hl).1;obtain⟨hs,I,o⟩:=N.hd;have ak:hs.length=n:=I.len;obtain⟨s,S⟩:=dW hs i oE;have ac:=o.2 i s l S hl;obtain⟨W1,al,F1⟩:=dR (((Fr.nil w).a w (dI ⟨A,n,G⟩ t2 t3 t4) 42).a (w+1) [.slice none 0 0,.slice none 0 0,.slice none 0 0,.slice none 0 0] 42);have o1:=aW F1;obtain⟨v,W2,r1,r,aa⟩:=uz (t:=40) underlying40 acO (I.go F1.bl) oE;obtain⟨g,f,rfl⟩:=qA r oE;have hg:=r.lt (k:=g) rfl;obtain⟨y0,y1⟩:=abj r rfl S (u:=s.v) (fun Z h=>h);have Xx:=F1.bl.trans (aa.mono F1.bl.size);have ao:l.length=s.n:=ac.len;obtain⟨v3,W3,r3,y,ab⟩:=uz (t:=26) underlying26 RY (ac.go Xx) oE;obtain⟨P,Q,rfl⟩:=qA y oE;have af:=y.lt (k:=P) rfl;have T:=r.go ab;obtain⟨z0,z1⟩:=abj T rfl S (u:=s.v) (fun Z h=>h);obtain⟨D,I4⟩:=aC (W3.setCell ⟨g,i,none⟩ (.slice (some ⟨P,0,none⟩) s.n Q));obtain⟨O,-⟩:=T.afw (k:=i) (x:=(⟨some ⟨P,0,none⟩,s.n,Q⟩:dK)) (us:= [.slice (some ⟨P,0,none⟩) s.n Q]) oE rfl (w':=D) (by rw[<-I4,show Rep.sz dK=1 from rfl,ij];rfl);have k4:KpO [g] W3 D:=by rw[<-I4];exact(KpO.refl _ _).setCell (p:=⟨g,i,none⟩) (.inl oO) _
 have am:g≠P:=oE;have V:=y.flat acu (w':=D) (fun q d=>k4.k.block q (y.lt d).2 (by cases d;simp;omega)) M;obtain⟨l0,ae⟩:=dW l k hk;obtain⟨x0,x1⟩:=abj V rfl ae (u:=.int .i64 l0) (fun Z h=>h.1);obtain⟨a0,a1⟩:=abj O rfl (fm (show i<hs.length by omega)) (u:=.slice (some ⟨P,0,none⟩) s.n Q) (fun Z h=>h);obtain⟨E,CZ⟩:=aC (D.setCell ⟨P,k,none⟩ (.int .i64 m));obtain⟨X,-⟩:=V.afw (k:=k) (x:=m) (us:= [.int .i64 m]) oE ⟨rfl,hm⟩ (w':=E) (by rw[<-CZ,show Rep.sz Int=1 from rfl,ij];rfl);have k5:KpO [P] D E:=by rw[<-CZ];exact(KpO.refl _ _).setCell (p:=⟨P,k,none⟩) (.inl oO) _
 have W:=O.flat abf (w':=E) (fun q d=>k5.k.block q (O.lt d).2 (by cases d;simp;omega)) M;have ai:w.heap.size+2<=W1.heap.size:=F1.mJ 1;have F5:=((((F1.go aa).go ab).kpo k4 (fun q d=>by simp at d;omega) (fun b vs hm d=>by simp at hm d;omega)).kpo k5 (fun q d=>by simp at d;omega) (fun b vs hm d=>by simp at hm d;omega));have o5:=aW F5;have F6:=Fr.qY (L:= [(w+1, [.slice none 0 0,.slice none 0 0,.slice none 0 0,.slice none 0 0])]) (b:=w) (C:=dI ⟨A,n,G⟩ t2 t3 t4) (F5.only (fun x hx=>by simp at hx;rcases hx with hx|hx<;>simp[hx])) (fun b vs hm=>by simp at hm;omega) (j:=0) (u0:=.slice A n G) rfl (.slice (some ⟨g,0,none⟩) n f);obtain⟨F,X0⟩:=aC (E.setCell ⟨w,0,none⟩ (.slice (some ⟨g,0,none⟩) n f));rw[X0]at F6;replace F6:Fr w F [(w+1, [.slice none 0 0,.slice none 0 0,.slice none 0 0,.slice none 0 0]),(w,dI ⟨some ⟨g,0,none⟩,n,f⟩ t2 t3 t4)]:=F6;have k6:KpO [w] E F:=by rw[<-X0];exact(KpO.refl _ _).setCell (p:=⟨w,0,none⟩) (.inl oO) _
 have z:=W.flat abf (w':=F) (fun q d=>k6.k.block q (W.lt d).2 (by cases d;simp;omega)) M;have B:=X.flat acu (w':=F) (fun q d=>k6.k.block q (X.lt d).2 (by cases d;simp;omega)) M;have o6:=aW F6;have HA:=Hd2 r1 r3;have HO:=Zw z B F6 o hl N;have HB:=oK ak S hg af (fun q d=>cf (hM q d) (cD (Nat.le_add_right _ 2) ai));clear r1 r3 r y T O V X W z B F1 F5 F6 k4 k5 k6 hc N o ac I aa ab Xx hl ae;simp only[dK.v]at y0 z0;have ad:W1.cell? ⟨w,0,none⟩=some (.slice A n G):=o1.1;have e1:=Iz (.cells #[] 26) ad;have e2:=Iz (.cells #[] 3) y0;refine ent func17 rfl ntmps17 ?_
 gi_wp2_with (first
  |(have g:=G1.out;clear g;gi_at_builtin;refine cY rfl fun K J=>?_;refine aI _ _ _ rfl rfl rfl HA.u (J _ _ ?_);clear J K)
  |(gi_at_builtin;refine cY rfl fun K J=>?_;refine aI _ _ _ rfl rfl rfl HA.a (J _ _ ?_);clear J K;have G1:=Hd trivial)
  |fail)
 clear o1 o5 o6 y0 y1 z0 z1 x0 x1 a0 a1 e1 e2 ad;obtain⟨z,B,F6,o,hl,N⟩:=HO.out;have FE:=F6.only (L':= [(w+1, [.slice none 0 0,.slice none 0 0,.slice none 0 0,.slice none 0 0])]) (fun x hx=>by simp at hx;simp[hx]);refine(fun(h:∀U,fM F (w.heap.size+1) 0 (dI ⟨some ⟨g,0,none⟩,n,f⟩ t2 t3 t4)=U->bodyPost _ _ _ _ _ U)=>h _ rfl) ?_;intro U hU;obtain⟨f2,kb⟩:=FE.abl (us:=dI ⟨some ⟨g,0,none⟩,n,f⟩ t2 t3 t4) rfl hU;have c0:=f2.aQ 0 0;have c1:=f2.aQ 0 1;have c2:=f2.aQ 0 2;have c3:=f2.aQ 0 3;obtain⟨A',c',Y,aj⟩:=aaZ (z.flat abf (w':=U) (fun q d=>kb.k.block q (z.lt d).2 (by cases d;simp;omega)) M) oE (fun q d hx=>by have I:=HB.x q d;have h2:=HB.out.2.2.1.1;simp[bP,Value.ownBlock]at hx;omega);cases Y;obtain⟨B',d',Y,ah⟩:=aaZ (B.flat acu (w':=U) (fun q d=>kb.k.block q (B.lt d).2 (by cases d;simp;omega)) M) oE (fun q d hx=>by have I:=HB.x q d;have h2:=HB.out.2.2.2.1.1;simp[bP,Value.ownBlock]at hx;omega);cases Y;have ag:∀j,(aw c.marks (i,k) m)[j]?=if i=j then some (l.set k m)else c.marks[j]?:=fun j=>by
  unfold aw;rw[show c.marks.getD (i,k).1 []=l by rw[cx,hl];rfl,mL];by_cases e:i=j;·subst e;simp[(bj.1 hl).1]
  simp[e]
 refine⟨rfl,.agg (dI ⟨some ⟨g,0,none⟩,n,f⟩ t2 t3 t4).toArray,by simp[results,results17,go_sem,c0,c1,c2,c3],⟨some ⟨g,0,none⟩,n,f⟩,rfl,Sl.afV aj ⟨by rw[fI,aaE];exact o.1,fun j s0 l' R H=>?_⟩,f2.bl⟩;rw[ag]at H;by_cases e:i=j;·subst e;rw[if_pos rfl]at H;cases H;rw[fm (by have:=HB.a;omega)]at R;cases R;exact ah
 ·rw[if_neg e]at H;rw[fz e]at R;exact(o.2 j s0 l' R H).go f2.bl
end
