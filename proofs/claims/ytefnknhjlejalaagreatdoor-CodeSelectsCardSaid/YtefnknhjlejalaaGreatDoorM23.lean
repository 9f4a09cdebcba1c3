/- Lemmas and walks; no statement is proved here. -/
import Derived.Test.YtefnknhjlejalaaGreatDoorM22
set_option linter.unusedVariables false
set_option linter.unusedSimpArgs false
set_option maxRecDepth 20000
set_option maxHeartbeats 6000000
namespace Go.Proofs.YtefnknhjlejalaaGreatDoor
open Go.Proofs.Tryz Go.RowKit Go.Shelf
theorem ade{p:Prop}(h:p:=by simp only[List.getElem?_cons_zero,List.getElem?_cons_succ,Option.some.injEq]at hu;subst hu;exact⟨by simp[go_sem,g0.1,g1.1,g2.1,g3.1],by simp[go_sem,g0.2,g1.2,g2.2,g3.2]⟩):p:=h
theorem adV{p:Prop}(h:p:=by
 refine Nat.lt_of_lt_of_le ?_ kp.size;rcases List.mem_append.1 hm with hm|hm;·exact h.lt _ _ (List.mem_append_left _ hm)
 simp only[List.mem_singleton,Prod.mk.injEq]at hm;obtain⟨rfl,rfl⟩:=hm;exact h.lt _ _ hy):p:=h
theorem ad_{p:Prop}(h:p:=by have hk:=kp.block b (h.lt _ _ hm') (by simp[hL _ _ hm]);have:=h.at_ _ _ hm' i u hu;exact⟨by rw[<-this.1];simp only[World.cell?,hk],by rw[<-this.2];simp only[World.frozen?,hk]⟩):p:=h
theorem aec{p:Prop}(h:p:=by
 rcases List.mem_append.1 hm with hm|hm;·exact h.ge _ _ (List.mem_append_left _ hm)
 simp only[List.mem_singleton,Prod.mk.injEq]at hm;obtain⟨rfl,rfl⟩:=hm;exact hge):p:=h
theorem ael{p:Prop}(h:p:=by simp only[List.getElem?_cons_zero,List.getElem?_cons_succ,Option.some.injEq]at hu;subst hu;exact⟨by simp[go_sem,g0.1,g1.1],by simp[go_sem,g0.2,g1.2]⟩):p:=h
theorem aeX{p:Prop}(h:p:=by
 rcases List.mem_append.1 hq with hq|hq;·have:=(hown q hq).1;omega
 simp at hq;omega):p:=h
theorem ae3{p:Prop}(h:p:=by simp only[List.mem_singleton,Prod.mk.injEq]at hm;obtain⟨rfl,rfl⟩:=hm;exact hown i u hu):p:=h
theorem ae9{p:Prop}(h:p:=by rw[show((aG z.num,ints (bG z.num)),(aG z.den,ints (bG z.den)))=jd z from rfl,Tv hzo];rfl):p:=h
variable {L:List (Nat×List Value)}{a0 a1 a2 a3:Value}{w':World}{b o k:Nat}{cs:List Value}{ty:TypeId}{x:InsR}
section
attribute [local go_sem] Oper.semAt_some
theorem Fr.Yv{w W:World}{y:Nat}(h:Fr w W (L++ [(y, [a0,a1,a2,a3])]))(hL:∀b vs,(b,vs)∈L->b≠y)(v0 v1 v2 v3:Value):
 ∃W',(((W.setCell ⟨y,0,none⟩ v0).setCell ⟨y,1,none⟩ v1).setCell ⟨y,2,none⟩ v2).setCell ⟨y,3,none⟩ v3=W'/\Fr w W' (L++ [(y, [v0,v1,v2,v3])])/\(∀s W0,s<=y->Below s W0 W->Below s W0 W')/\Keeps [y] W W':=by
 have hy:(y, [a0,a1,a2,a3])∈L++ [(y, [a0,a1,a2,a3])]:=by simp
 have g:=h.at_ _ _ hy;have g0:=g 0 _ rfl;have g1:=g 1 _ rfl;have g2:=g 2 _ rfl;have g3:=g 3 _ rfl;have kp:=((((Keeps.refl [y] W).setCell (p:=⟨y,0,none⟩) (.inl (by simp)) v0).setCell (p:=⟨y,1,none⟩) (.inl (by simp)) v1).setCell (p:=⟨y,2,none⟩) (.inl (by simp)) v2).setCell (p:=⟨y,3,none⟩) (.inl (by simp)) v3;have hB:∀s W0,s<=y->Below s W0 W->Below s W0 ((((W.setCell ⟨y,0,none⟩ v0).setCell ⟨y,1,none⟩ v1).setCell ⟨y,2,none⟩ v2).setCell ⟨y,3,none⟩ v3):=fun s W0 hs hb=>(((hb.setCell (p:=⟨y,0,none⟩) hs v0).setCell (p:=⟨y,1,none⟩) hs v1).setCell (p:=⟨y,2,none⟩) hs v2).setCell (p:=⟨y,3,none⟩) hs v3;have hown:∀i u, [v0,v1,v2,v3][i]?=some u->((((W.setCell ⟨y,0,none⟩ v0).setCell ⟨y,1,none⟩ v1).setCell ⟨y,2,none⟩ v2).setCell ⟨y,3,none⟩ v3).cell? ⟨y,i,none⟩=some u/\((((W.setCell ⟨y,0,none⟩ v0).setCell ⟨y,1,none⟩ v1).setCell ⟨y,2,none⟩ v2).setCell ⟨y,3,none⟩ v3).frozen? ⟨y,i,none⟩=false:=by
  intro i u hu
  match i,hu with
  |0,hu=>exact ade
  |1,hu=>exact ade
  |2,hu=>exact ade
  |3,hu=>exact ade
  |i+4,hu=>simp at hu
 generalize (((W.setCell ⟨y,0,none⟩ v0).setCell ⟨y,1,none⟩ v1).setCell ⟨y,2,none⟩ v2).setCell ⟨y,3,none⟩ v3=W' at kp hB hown;have hge:=h.ge _ _ hy;refine⟨W',rfl,⟨hB _ _ hge h.bl,fun b vs hm i u hu=>?_,fun b vs hm=>?_,fun b vs hm=>?_⟩,hB,kp⟩
 ·rcases List.mem_append.1 hm with hm|hm;·have hm':(b,vs)∈L++ [(y, [a0,a1,a2,a3])]:=List.mem_append_left _ hm;exact ad_
  exact ae3
 ·exact adV
 ·exact aec
namespace U
open Go.RowKit Go.Shelf
attribute [local go_sem] Oper.semAt_some
end U
theorem Qk:(prog.info? 30).map (fun i=>i.size)=some 4:=by kernel_rfl
theorem Aa{W:World}{y:Nat}(h0:W.cell? ⟨y,0,none⟩=some a0)(h1:W.cell? ⟨y,1,none⟩=some a1)(h2:W.cell? ⟨y,2,none⟩=some a2)(h3:W.cell? ⟨y,3,none⟩=some a3)(f0:W.frozen? ⟨y,0,none⟩=false)(f1:W.frozen? ⟨y,1,none⟩=false)(f2:W.frozen? ⟨y,2,none⟩=false)(f3:W.frozen? ⟨y,3,none⟩=false)(p q:Bool)(A B:Option Addr)(n c m d:Nat):
 (Instr.storeAt 30 (.pointer (some ⟨y,0,none⟩)) (.agg #[.bool p,.slice A n c,.bool q,.slice B m d])).run prog W=.ok () ((((W.setCell ⟨y,0,none⟩ (.bool p)).setCell ⟨y,1,none⟩ (.slice A n c)).setCell ⟨y,2,none⟩ (.bool q)).setCell ⟨y,3,none⟩ (.slice B m d)):=by
 go_simp
theorem Fa{W:World}{y:Nat}{a:Value}(h0:W.cell? ⟨y,1,none⟩=some a)(f0:W.frozen? ⟨y,1,none⟩=false)(A:Option Addr)(n c:Nat):
 (Instr.storeAt 23 (.pointer (some ⟨y,1,none⟩)) (.slice A n c)).run prog W=.ok () (W.setCell ⟨y,1,none⟩ (.slice A n c)):=by
 go_simp
theorem Fr.acd{w W:World}{y:Nat}(h:Fr w W (L++ [(y, [a0,a1])]))(hL:∀b vs,(b,vs)∈L->b≠y)(v1:Value):
 ∃W',W.setCell ⟨y,1,none⟩ v1=W'/\Fr w W' (L++ [(y, [a0,v1])])/\(∀s W0,s<=y->Below s W0 W->Below s W0 W')/\Keeps [y] W W':=by
 have hy:(y, [a0,a1])∈L++ [(y, [a0,a1])]:=by simp
 have g:=h.at_ _ _ hy;have g0:=g 0 _ rfl;have g1:=g 1 _ rfl;have kp:=(Keeps.refl [y] W).setCell (p:=⟨y,1,none⟩) (.inl (by simp)) v1;have hB:∀s W0,s<=y->Below s W0 W->Below s W0 (W.setCell ⟨y,1,none⟩ v1):=fun s W0 hs hb=>hb.setCell (p:=⟨y,1,none⟩) hs v1;have hown:∀i u, [a0,v1][i]?=some u->(W.setCell ⟨y,1,none⟩ v1).cell? ⟨y,i,none⟩=some u/\(W.setCell ⟨y,1,none⟩ v1).frozen? ⟨y,i,none⟩=false:=by
  intro i u hu
  match i,hu with
  |0,hu=>exact ael
  |1,hu=>exact ael
  |i+2,hu=>simp at hu
 generalize W.setCell ⟨y,1,none⟩ v1=W' at kp hB hown;have hge:=h.ge _ _ hy;refine⟨W',rfl,⟨hB _ _ hge h.bl,fun b vs hm i u hu=>?_,fun b vs hm=>?_,fun b vs hm=>?_⟩,hB,kp⟩
 ·rcases List.mem_append.1 hm with hm|hm;·have hm':(b,vs)∈L++ [(y, [a0,a1])]:=List.mem_append_left _ hm;exact ad_
  exact ae3
 ·exact adV
 ·exact aec
theorem gG.keep{w:World}{K:List Nat}(h:gG w b cs ty)(k:Keeps K w w')(hb:b∉K):gG w' b cs ty:=by unfold gG at*;rw[k.block b (by exact(Array.getElem?_eq_some_iff.1 h).1) hb];exact h
theorem gG.grown{w:World}{row:Option Nat}(h:gG w b cs ty)(hg:w.grownBy w' row)(hb:row≠some b):gG w' b cs ty:=by unfold gG at*;rw[hg.block b (by exact(Array.getElem?_eq_some_iff.1 h).1) (fun e=>hb e.symm)];exact h
structure Ae(W:World)(M:List Nat)(mb:Nat)(A:Option Addr)(n c:Nat)(B:Option Addr)(m d:Nat)(ins regs:List Rt)(r:RatR)(p q:Bool)(A1:Option Addr)(n1 c1:Nat)(B1:Option Addr)(m1 d1:Nat):Prop where
 bel:b_ M W
 U4:ou W M mb A n c B m d ins regs
 xc:XC W M r p q A1 n1 c1 B1 m1 d1
section
variable {W V:World}{M:List Nat}{mb y:Nat}{A B A1 B1:Option Addr}{n c m d n1 c1 m1 d1:Nat}{ins regs:List Rt}{r:RatR}{p q:Bool}
theorem XC.drew(h:XC W M r p q A n c B m d):XC W.drew M r p q A n c B m d:=⟨h.hp,h.hq,h.s1.keep (Keeps.refl _ _).drew,h.s2.keep (Keeps.refl _ _).drew⟩
theorem Ae.drew(h:Ae W M mb A n c B m d ins regs r p q A1 n1 c1 B1 m1 d1):Ae W.drew M mb A n c B m d ins regs r p q A1 n1 c1 B1 m1 d1:=⟨h.bel,h.U4.drew,h.xc.drew⟩
theorem Ae.turn(h:Ae W M mb A n c B m d ins regs r p q A1 n1 c1 B1 m1 d1)(hb:Below W.drew.heap.size W.drew V)(hy:W.heap.size=y)(hl:y<V.heap.size):Ae V (y::M) mb A n c B m d ins regs r p q A1 n1 c1 B1 m1 d1:=⟨(h.bel.le hb.size).cons hl,(h.U4.more (Nat.le_of_eq hy)).drew.go hb,(h.xc.more (Nat.le_of_eq hy)).drew.go hb⟩
end
theorem U8(n:Nat)(hn:n<=1000)(w:World):∃cur:Array Value,cur.size=n*4/\(Instr.makeSlice 23 (.int .i64 0) (.int .i64 (n:Int))).run prog w=.ok (.slice (some ⟨w.heap.size,0,none⟩) 0 n) (w.alloc (.cells cur 30)):=by obtain⟨i,hi,hz,hs,hb⟩:=info_parts Xp;have:=run_make (P:=prog) w 23 30 i _ underlying23 hi hz .i64 .i64 0 (n:Int) (Int.le_refl _) (by omega) (by rw[hb];omega) (by omega);refine⟨_,?_,this⟩;rw[size_madeCells,hs,Int.toNat_natCast]
theorem DW{i m:Int}{op a b c d:Int}{r:RatR}(h:aj i m (op,a,b,c,d,r)=true):∃o:Nat,op=o/\1<=o/\o<=8:=by
 refine⟨op.toNat,?_⟩;rcases rZ h with⟨rfl,_⟩|⟨rfl,_⟩|⟨h3,_⟩|⟨rfl,_⟩|⟨rfl,_⟩;·decide
 ·decide
 ·rcases h3 with rfl|rfl|rfl|rfl<;>decide
 ·decide
 decide
theorem aag(h1:1<=o)(h8:o<=8):opsL[o*4+3]?=some (.func (.func (opF o)) #[] #[]):=by
 have:o=1\/o=2\/o=3\/o=4\/o=5\/o=6\/o=7\/o=8:=by omega
 rcases this with rfl|rfl|rfl|rfl|rfl|rfl|rfl|rfl<;>rfl
theorem abf(h1:1<=o)(h8:o<=8)(args:Array Value)(w:World):(callFunc (opF o) args).run prog w=.ok (.enter (opF o) args) w:=by
 have:o=1\/o=2\/o=3\/o=4\/o=5\/o=6\/o=7\/o=8:=by omega
 rcases this with rfl|rfl|rfl|rfl|rfl|rfl|rfl|rfl<;>simp[opF]
end
abbrev zQ:List Value:= [.bool false,.slice none 0 0,.bool false,.slice none 0 0]
structure aah(w wr:World)(M:List Nat)(bo mb:Nat)(B:Option Addr)(m d:Nat)(v:Value)(k:Nat)(regs:List Rt):Prop where
 fr:Fr w wr [(w.heap.size,zQ),(mb, [.slice B m d,v])]
 ro:gG wr bo opsL 68
 own:Dy wr (mb::w.heap.size::M) (bo+1) v k regs
 ne:v.ownBlock≠some mb
structure ru(w:World)(M:List Nat)(A:Option Addr)(n c:Nat)(B:Option Addr)(m d:Nat)(p:List InsR)(ins:List Rt):Prop where
 bel:b_ M w
 sp:Sl InsR w M A n c p
 si:Sl RatR w M B m d (ins.map jd)
 ce:fC p m=0
 few:Nl p
 len:n<=64
 regs:YT 0 ins
section
variable {w:World}{M:List Nat}{A B:Option Addr}{n c m d:Nat}{p:List InsR}{ins:List Rt}
theorem ru.lp(h:ru w M A n c B m d p ins):p.length=n:=h.sp.len
theorem ru.li(h:ru w M A n c B m d p ins):ins.length=m:=by have:=h.si.len;simpa using this
theorem ru.pos(h:ru w M A n c B m d p ins):1<=n:=by have:=((yj p m).1 h.ce).1.1;rw[h.lp]at this;exact this
theorem ru.rights(h:ru w M A n c B m d p ins):iy m 0 p=true:=((yj p m).1 h.ce).2
theorem ru.all(h:ru w M A n c B m d p ins){k:Nat}(hk:k<=n):wP (jf ins [] (p.take k)):=((AL h.regs (by rw[h.li];exact h.rights) h.few (by rw[h.lp];exact h.len) k (by rw[h.lp];exact hk)).all (by have:=h.len;omega)).right
theorem ru.Hl(h:ru w M A n c B m d p ins)(hx:p[k]?=some x):aj (k:Nat) (m:Nat) x=true/\Few3 x.2.2.2.2.2:=by have:=uG h.rights hx;rw[Int.zero_add]at this;exact⟨this,h.few x (List.mem_of_getElem? hx)⟩
theorem ru.step(h:ru w M A n c B m d p ins)(hx:p[k]?=some x):jf ins [] (p.take (k+1))=jf ins [] (p.take k)++ [rG ins (jf ins [] (p.take k)) x]:=by rw[take_snoc hx,uZ]
theorem ru.res(h:ru w M A n c B m d p ins):aW (jf ins [] (p.take n)) ((n-1:Nat):Int)=zJ p ins:=by rw[List.take_of_length_le (by rw[h.lp];exact Nat.le_refl _)];unfold zJ;rw[h.lp];have:=h.pos;congr 1;omega
end
namespace U
open Go.RowKit Go.Shelf
attribute [local go_sem] Oper.semAt_some
attribute [-go_sem] Instr.storeAt
set_option maxRecDepth 100000 in
set_option maxHeartbeats 32000000 in
theorem Aq{M:List Nat}{A B:Option Addr}{n c m d:Nat}{p:List InsR}{ins:List Rt}{w:World}{fuel:Int}(h:ru w M A n c B m d p ins)(hfl:(n:Int)<=fuel)(hfi:i64 fuel):
 Calls prog 9 #[.slice A n c,.slice B m d,.int .i64 fuel] w fun e w'=>∃u,e=.returned (.tuple #[u,.int .i64 (fuel-n),.int .i64 0])/\QW w' M u (zJ p ins)/\Below w.heap.size w w':=by
 refine wid ?_;have hsp:=h.sp.small;have hsi:=h.si.small;have ace:=h.len;have hn1:=h.pos;have k1:IntKind.i64.wrap ((n:Int)-1)=((n-1:Nat):Int):=by rw[IntKind.wrap_i64];omega
 have kf:IntKind.i64.wrap (fuel-(n:Int))=fuel-(n:Int):=by rw[IntKind.wrap_i64];unfold i64 at hfi;omega
 have kl:¬fuel<(n:Int):=by omega
 have H:=Hd h;obtain⟨W1,hW1,F1⟩:=nam ((Fr.nil w).a4 w.heap.size 30);refine op1 F1 ?_;intros;have F:=Hd F1;clear h F1;obtain⟨OV,Xy⟩:∃OV:Array Value,opsL.toArray=OV:=⟨_,rfl⟩;refine ent func9 rfl ntmps9 ?_;gi_wp2_with (refine Cl 11 (qU (M:=M) _ n c p (m:Int) _ (H.out.bel.le F.out.bl.size) (H.out.sp.go F.out.bl)) ?_;rintro e w2 ⟨rfl,hb2⟩;rw[H.out.ce];have F2:=F.out.go hb2;refine op1 F2 ?_;intros;have G2:=Hd F2;clear hb2 F2)
 gi_loopw[27] (fun i wr=>∃k:Nat,k<=m/\i=.int .i64 k/\Hid (Fr w wr [(w.heap.size,zQ)])) (fun i _=>m-(intOf i).toNat);case atStart=>exact⟨0,Nat.zero_le _,rfl,G2.out⟩
 case round=>
  obtain⟨k,hk,rfl,hF⟩:=hrel;have hFo:=hF.out;refine op1 hFo ?_;intros;clear hFo;by_cases hlt:k<m
  ·obtain⟨z,hz⟩:=dW ins k (by rw[H.out.li];exact hlt);obtain⟨b,o,A1,n1,c1,A2,n2,c2,rfl,hc0,hc1,hc2,hc3,hs1,hs2⟩:=(H.out.si.go hF.out.bl).TY (k:=k) (p:=aG z.num) (l1:=ints (bG z.num)) (q:=aG z.den) (l2:=ints (bG z.den)) (by rw[List.getElem?_map,hz];rfl);have S:=Hd2 hs1 hs2;have hzo:z.ok:=by
    have:=(H.out.regs.sh (by omega)) z (List.mem_of_getElem? hz);exact this.1
   have HK:=Hd (show qM (dF ((aG z.num,ints (bG z.num)),(aG z.den,ints (bG z.den))))=0 by exact ae9);generalize aG z.num=p1 at*;generalize aG z.den=q1 at*
   obtain⟨Wk,hWk⟩:=aC (wr.alloc (.cells #[.bool p1,.slice A1 n1 c1,.bool q1,.slice A2 n2 c2] 30));have hf1:(Instr.storeAt 30 (.pointer (some ⟨wr.heap.size,0,none⟩)) (.agg #[.bool p1,.slice A1 n1 c1,.bool q1,.slice A2 n2 c2])).run prog (wr.alloc (.cells #[.bool false,.slice none 0 0,.bool false,.slice none 0 0] 30))=.ok () Wk:=by rw[<-hWk];exact tY Qk rfl (by simp[Value.oneCell'])
   have bk:Below wr.heap.size wr Wk:=by rw[<-hWk];exact bel
   have RK:gG Wk wr.heap.size [.bool p1,.slice A1 n1 c1,.bool q1,.slice A2 n2 c2] 30:=by rw[<-hWk];exact heap_alloc_new wr _
   have v0:=RK.cell (k:=0) rfl;have v1:=RK.cell (k:=1) rfl;have v2:=RK.cell (k:=2) rfl;have v3:=RK.cell (k:=3) rfl;have HBK:=Hd bk;clear hs1 hs2 hz hzo RK bk hWk;gi_wp2_with (refine Cl 23 (Em (l1:=ints (bG z.num)) (l2:=ints (bG z.den)) (M:=M) (H.out.bel.le (Nat.le_trans hF.out.bl.size HBK.out.size)) (S.out.1.go HBK.out) (S.out.2.go HBK.out)) ?_;rintro e w2 ⟨rfl,hb2⟩;rw[HK.out];have G3:=Hd (hF.out.go (HBK.out.trans (hb2.mono HBK.out.size)));clear hb2)
   exact⟨⟨k+1,by omega,by go_num,G3⟩,by simp[intOf];omega⟩
  ·have hkm:k=m:=by omega
   clear hk hlt;subst hkm;gi_wp2;refine Cl 24 (tq _) ?_;rintro e w5 ⟨rfl,hb5⟩;rw[Xy];obtain⟨W3,hW3⟩:=aC (w5.alloc (.cells OV 68));have hst:(Instr.storeAt 68 (.pointer (some ⟨w5.heap.size,0,none⟩)) (.agg OV)).run prog (w5.alloc (.cells #[.int .i64 0,.bool false,.bool false,.nilFunc,.int .i64 0,.bool false,.bool false,.nilFunc,.int .i64 0,.bool false,.bool false,.nilFunc,.int .i64 0,.bool false,.bool false,.nilFunc,.int .i64 0,.bool false,.bool false,.nilFunc,.int .i64 0,.bool false,.bool false,.nilFunc,.int .i64 0,.bool false,.bool false,.nilFunc,.int .i64 0,.bool false,.bool false,.nilFunc,.int .i64 0,.bool false,.bool false,.nilFunc] 68))=.ok () W3:=by rw[<-hW3,<-Xy];exact tY sW rfl (by simp[opsL,Value.oneCell'])
   have R3:Hid (gG W3 w5.heap.size opsL 68):=by rw[<-hW3,<-Xy];exact heap_alloc_new w5 _
   have F3:Hid (Fr w W3 [(w.heap.size,zQ)]):=by
    have hbW:Below w5.heap.size w5 W3:=by rw[<-hW3];exact bel
    exact(hF.out.go hb5).go hbW
   have HB5:=Hd (Nat.lt_of_lt_of_le (hF.out.mJ 0) hb5.size);have HS3:=Hd (show W3.heap.size=w5.heap.size+1 by rw[<-hW3];simp);obtain⟨cur,hcur,hmk⟩:=U8 n (by omega) W3;obtain⟨W4,I4⟩:=aC (W3.alloc (.cells cur 30));have O4:Hid (∀N,Dy W4 N (w5.heap.size+1) (.slice (some ⟨W3.heap.size,0,none⟩) 0 n) 0 []):=fun N=>by rw[<-I4];exact bD.made W3 N (by rw[HS3.out];exact Nat.le_refl _) cur n (by omega) hcur
   have F4:Hid (Fr w W4 [(w.heap.size,zQ)]):=F3.out.go (by rw[<-I4];exact bel);have R4:Hid (gG W4 w5.heap.size opsL 68):=R3.out.go (show Below W3.heap.size W3 W4 by rw[<-I4];exact bel) (by rw[HS3.out];omega);have HS4:=Hd (show W4.heap.size=W3.heap.size+1 by rw[<-I4];simp);rw[I4]at hmk;clear hb5 hcur hW3 I4;gi_wp2;obtain⟨bo,Xr⟩:=aC w5.heap.size;obtain⟨sB,hsB⟩:=aC W3.heap.size;obtain⟨mb,hmb⟩:=aC W4.heap.size;rw[Xr]at R4 O4 HB5;rw[hsB]at O4;rw[Xr,hsB]at HS3;rw[hsB,hmb]at HS4;have E4:=F4.out.al mb [.slice B k d,.slice (some ⟨sB,0,none⟩) 0 n] 72 hmb.symm;rw[Xr,hsB,hmb];obtain⟨W5,CZ⟩:=aC (W4.alloc (.cells #[.slice B k d,.slice (some ⟨sB,0,none⟩) 0 n] 72));rw[CZ]at E4 |-;have hb5:Below W4.heap.size W4 W5:=by rw[<-CZ];exact bel
   have HB:=Hd (show w.heap.size<bo/\bo<sB/\sB<mb from⟨HB5.out,by rw[HS3.out];omega,by rw[HS4.out];omega⟩);have S0:Hid (aah w W5 M bo mb B k d (.slice (some ⟨sB,0,none⟩) 0 n) 0 (jf ins [] (p.take 0))):=Hd ⟨E4,R4.out.go hb5 R4.out.lt,(O4.out _).go hb5,by have:=HB.out;simp[Value.ownBlock];omega⟩;clear E4 R4 O4 F4 R3 F3 hst hmk Xr hsB hmb CZ hb5;gi_loopw[50] (fun i wr=>∃(j:Nat) (v:Value),j<=n/\i=.int .i64 j/\Hid (aah w wr M bo mb B k d v j (jf ins [] (p.take j)))) (fun i _=>n-(intOf i).toNat);case atStart=>exact⟨0,_,Nat.zero_le _,rfl,S0⟩
   case round=>
    obtain⟨j,v,hj,rfl,hS⟩:=hrel;obtain⟨Av,cv,rfl,Ql⟩:=hS.out.own.slQ (by omega);have hfr:=hS.out.fr;refine op1 hfr ?_;intros;clear hfr;by_cases hlt:j<n
    ·obtain⟨x,hx⟩:=dW p j (by rw[H.out.lp];exact hlt);obtain⟨op,xa,xb,xc,xd,r⟩:=x;have hrk:=H.out.Hl hx;obtain⟨o,rfl,ho1,Uj⟩:=DW hrk.1;obtain⟨M0,hM0⟩:=aC (bP (.slice Av j cv)++(mb::w.heap.size::M));have hMe:(bP (.slice Av j cv)++ [mb,w.heap.size])++M=M0:=by rw[<-hM0];simp
     have hown:∀q,q∈bP (.slice Av j cv)->bo+1<=q/\q<wr.heap.size:=fun q hq=>hS.out.own.lt (bJ.1 hq);have hge:∀q,q∈bP (.slice Av j cv)++ [mb,w.heap.size]->w.heap.size<=q:=fun q hq=>by have:=HB.out;exact aeX
     have hbel:b_ M0 wr:=fun q hq=>by
      rw[<-hM0]at hq;have h1:=hS.out.fr.lt mb [.slice B k d,.slice Av j cv] (by simp);have h2:=hS.out.fr.mJ 0;rcases List.mem_append.1 hq with hq|hq;·exact(hown q hq).2
      simp only[List.mem_cons]at hq;rcases hq with rfl|rfl|hq;·exact h1
      ·exact h2
      exact H.out.bel.le hS.out.fr.bl.size q hq
     have Qn:Sl InsR wr M0 A n c p:=by rw[<-hMe];exact(H.out.sp.moreL _ hge).go hS.out.fr.bl
     have Qo:qC wr M0 B k d ins:=by rw[<-hMe];exact((qC.of H.out.si).moreL _ hge).go hS.out.fr.bl
     rw[hM0]at Ql;obtain⟨b,o1,A1,n1,c1,A2,n2,c2,rfl,⟨g0,g1,g2,g3,g4⟩,⟨h5,h6,h7,h8⟩,hi64,s1,s2⟩:=Qn.insat hx;obtain⟨p5,EI⟩:=aC r.1.1;obtain⟨q5,hq5⟩:=aC r.2.1;rw[EI]at h5;rw[hq5]at h7;obtain⟨W6,X0⟩:=aC (wr.alloc (.cells #[.int .i64 (o:Int),.int .i64 xa,.int .i64 xb,.int .i64 xc,.int .i64 xd,.bool p5,.slice A1 n1 c1,.bool q5,.slice A2 n2 c2] 38));have hfi:(Instr.storeAt 38 (.pointer (some ⟨wr.heap.size,0,none⟩)) (.agg #[.int .i64 (o:Int),.int .i64 xa,.int .i64 xb,.int .i64 xc,.int .i64 xd,.bool p5,.slice A1 n1 c1,.bool q5,.slice A2 n2 c2])).run prog (wr.alloc (.cells #[.int .i64 0,.int .i64 0,.int .i64 0,.int .i64 0,.int .i64 0,.bool false,.slice none 0 0,.bool false,.slice none 0 0] 38))=.ok () W6:=by rw[<-X0];exact tY z_ rfl (by simp[Value.oneCell'])
     have b6:Below wr.heap.size wr W6:=by rw[<-X0];exact bel
     have R6:gG W6 wr.heap.size [.int .i64 (o:Int),.int .i64 xa,.int .i64 xb,.int .i64 xc,.int .i64 xd,.bool p5,.slice A1 n1 c1,.bool q5,.slice A2 n2 c2] 38:=by rw[<-X0];exact heap_alloc_new wr _
     have xY:gG W6 bo opsL 68:=hS.out.ro.go b6 hS.out.ro.lt;have F6:=Hd (hS.out.fr.go b6);have hmc:=fun i u hu=>(F6.out.at_ mb [.slice B k d,.slice Av j cv] (by simp) i u hu).1;have XAH:=Hd (show Ae W6 M0 mb B k d Av j cv ins (jf ins [] (p.take j)) r p5 q5 A1 n1 c1 A2 n2 c2 from⟨hbel.le b6.size,⟨hmc 0 _ rfl,hmc 1 _ rfl,Qo.go b6,Ql.go b6⟩,⟨EI,hq5,s1.go b6,s2.go b6⟩⟩);have HR:=fB hrk.1 hrk.2 (H.out.all hj);have MJ:=h_ hx hM0 b6 hown;obtain⟨sb1,abg⟩:=aC W6.heap.size;have Ar:=Hd abg;clear abg;have v0:=bQ Ar.out (R6.cell (k:=0) rfl);have v1:=bQ Ar.out (R6.cell (k:=1) rfl);have v2:=bQ Ar.out (R6.cell (k:=2) rfl);have v3:=bQ Ar.out (R6.cell (k:=3) rfl);have v4:=bQ Ar.out (R6.cell (k:=4) rfl);have v5:=bQ Ar.out (R6.cell (k:=5) rfl);have v6:=bQ Ar.out (R6.cell (k:=6) rfl);have v7:=bQ Ar.out (R6.cell (k:=7) rfl);have v8:=bQ Ar.out (R6.cell (k:=8) rfl);have vf:=bQ Ar.out (xY.cell (k:=o*4+3) (aag ho1 Uj));clear hx hrk hMe hown hge hbel Qn Qo Ql EI hq5 hM0 s1 s2 hmc b6 R6 xY hi64;have ho9:(o:Int)<9:=by omega
     have hcf:=abf ho1 Uj;gi_wp2;refine aP sb1 13 (by kernel_rfl) (by kernel_rfl) ?_;refine ay 0 ?_;refine ay 1 ?_;refine ay 2 ?_;refine ay 3 ?_;refine ay 4 ?_;refine ay 5 ?_;refine ay 6 ?_;refine oQ 7 [11] (by kernel_rfl) (dN (by decide) rfl ?_ (fun K hK=>?_) (dN (by decide) rfl ?_ (fun K hK=>?_) gU));·exact wy
     rotate_left;·exact wy
     rotate_left;case' _=>
      gi_wp2;obtain⟨M',hM'⟩:=aC M0;have XA:=(XAH.out).drew;rw[hM']at XA;refine Cm (AY (o:=o) XA.bel XA.U4 XA.xc HR.out.1 HR.out.2.1 HR.out.2.2) ?_;rintro e w2 ⟨u2,rfl,z2,hb2⟩;obtain⟨U9,U_,Va,n21,c21,Vb,m21,Vl,rfl,jJ⟩:=QC.of z2;rw[<-hM']at jJ;have Hc:=fB ((F6.out).drew.go hb2) jJ ((Below.refl (W6).heap.size W6).drew.trans (hb2.mono (Nat.le_refl _)));refine hK _ _ ⟨?_,?_⟩;clear hK K;·exact Keeps.of_below hb2 _
      refine lit ?_;clear z2 hb2 jJ XA hM' M';refine ay 8 ?_;refine ay 9 ?_;refine ay 10 ?_;obtain⟨abh,hV⟩:=aC (w2.alloc (.cells #[.bool false,.slice none 0 0,.bool false,.slice none 0 0] 30));have x9:Below w2.heap.size w2 abh:=by rw[<-hV];exact bel
      have FV:=Hc.out.1.al w2.heap.size [.bool false,.slice none 0 0,.bool false,.slice none 0 0] 30 rfl;rw[hV]at FV;have qcV:=(Hc.out.2.1.more (b:=w2.heap.size) (Nat.le_refl _)).go x9;have hby:=Hc.out.2.2.trans (x9.mono Hc.out.2.2.size);have hy0:=Hc.out.2.2.size;obtain⟨y21,hy⟩:=aC w2.heap.size;refine eU 11 fun K hK=>?_;gi_wp2;refine⟨Keeps.of_below x9 _,?_⟩;refine lit ?_;try rw[hy]
      rw[hy]at FV qcV hy0;have HZ:=h_ FV qcV hby hy0;clear FV qcV hby hy0 x9 hV hy Hc
     rotate_left;case' _=>
      obtain⟨V,hV⟩:=aC ((W6).drew.alloc (.cells #[.bool false,.slice none 0 0,.bool false,.slice none 0 0] 30));have x9:Below (W6).drew.heap.size (W6).drew V:=by rw[<-hV];exact bel
      have FV:=(F6.out).drew.al (W6).heap.size [.bool false,.slice none 0 0,.bool false,.slice none 0 0] 30 rfl;rw[hV]at FV;obtain⟨y21,hy⟩:=aC (W6).heap.size;gi_wp2;refine⟨Keeps.of_below x9 _,?_⟩;refine lit ?_;rw[hy]at FV;try rw[hy]
      have hyl:y21<V.heap.size:=FV.lt _ [.bool false,.slice none 0 0,.bool false,.slice none 0 0] (by simp);obtain⟨M',hM'⟩:=aC (y21::M0);have XA:=(XAH.out).turn x9 hy hyl;rw[hM']at XA;have Hc:=fB FV ((Below.refl (W6).heap.size W6).drew.trans x9) (Nat.le_of_eq hy);clear FV hV hy;refine eU 7 fun K hK=>?_;gi_wp2;refine Cm (AY (o:=o) XA.bel XA.U4 XA.xc HR.out.1 HR.out.2.1 HR.out.2.2) ?_;rintro e abh ⟨u2,rfl,z2,hb2⟩;obtain⟨U9,U_,Va,n21,c21,Vb,m21,Vl,rfl,jJ⟩:=QC.of z2;rw[<-hM']at jJ;refine hK _ _ ⟨?_,?_⟩;clear hK K;·exact Keeps.of_below hb2 _
      refine lit ?_;have HZ:=h_ (Hc.out.1.go hb2) jJ (Hc.out.2.1.trans (hb2.mono Hc.out.2.1.size)) Hc.out.2.2;clear z2 hb2 jJ XA hM' M' hyl x9 Hc;refine ay 8 ?_;refine ay 9 ?_;refine ay 10 ?_
     all_goals
      clear v0 v1 v2 v3 v4 v5 v6 v7 v8 vf;obtain⟨W7,XM,F6,hB6,kp6⟩:=Fr.Yv (y:=y21) HZ.out.1 (fun b vs hm=>Nat.ne_of_lt (Nat.lt_of_lt_of_le ((F6.out).lt b vs hm) HZ.out.2.2.2)) (.bool U9) (.slice Va n21 c21) (.bool U_) (.slice Vb m21 Vl);have FZ:=HZ.out.1;refine op1 FZ ?_;intros;refine op1 F6 ?_;intros;have ach:=(Aa (HZ.out.1.at_ y21 [.bool false,.slice none 0 0,.bool false,.slice none 0 0] (by simp) 0 _ rfl).1 (HZ.out.1.at_ y21 [.bool false,.slice none 0 0,.bool false,.slice none 0 0] (by simp) 1 _ rfl).1 (HZ.out.1.at_ y21 [.bool false,.slice none 0 0,.bool false,.slice none 0 0] (by simp) 2 _ rfl).1 (HZ.out.1.at_ y21 [.bool false,.slice none 0 0,.bool false,.slice none 0 0] (by simp) 3 _ rfl).1 (HZ.out.1.at_ y21 [.bool false,.slice none 0 0,.bool false,.slice none 0 0] (by simp) 0 _ rfl).2 (HZ.out.1.at_ y21 [.bool false,.slice none 0 0,.bool false,.slice none 0 0] (by simp) 1 _ rfl).2 (HZ.out.1.at_ y21 [.bool false,.slice none 0 0,.bool false,.slice none 0 0] (by simp) 2 _ rfl).2 (HZ.out.1.at_ y21 [.bool false,.slice none 0 0,.bool false,.slice none 0 0] (by simp) 3 _ rfl).2 U9 U_ Va Vb n21 c21 m21 Vl).trans (by rw[XM]);clear XM;have HS1:=fB F6 (HZ.out.2.1.abd kp6) (hB6 _ _ HZ.out.2.2.2 HZ.out.2.2.1);have acf:=Hd HZ.out.2.2.2;have kU:=Keeps.sU (s:=sb1) kp6 (Ar.out▸HZ.out.2.2.2);clear FZ F6 hB6 kp6 HZ;refine eU 12 fun K hK=>?_;gi_wp2;refine⟨kU,?_⟩;refine lit ?_;clear kU;refine iq 1 ?_;refine jW fun K hK K' hK'=>?_;gi_wp2;refine tail_nil _ ?_;simp only[cu];gi_wp2;have hbj:Below wr.heap.size wr W7:=MJ.out.2.2.1.trans (HS1.out.2.2.mono MJ.out.2.2.1.size);have hbw:Below w.heap.size w W7:=hS.out.fr.bl.trans (hbj.mono hS.out.fr.bl.size);have abj:=hS.out.own.go hbj;have ro7:=Hd (hS.out.ro.go hbj hS.out.ro.lt);have hmW:mb<W7.heap.size:=HS1.out.1.lt mb [.slice B k d,.slice Av j cv] (by simp);have Yq:w.heap.size<W7.heap.size:=HS1.out.1.mJ 0;have hMb:b_ (mb::w.heap.size::M) W7:=((H.out.bel.le hbw.size).cons Yq).cons hmW;have hq7:QC W7 (bP (.slice Av j cv)++(mb::w.heap.size::M)) (rG ins (jf ins [] (p.take j)) ((o:Int),xa,xb,xc,xd,r)) U9 U_ Va n21 c21 Vb m21 Vl:=by rw[MJ.out.2.1];exact HS1.out.2.1
      have abk:bo+1<=W7.drew.heap.size:=by have:=HB.out;show bo+1<=W7.heap.size;omega
      obtain⟨v',wA,r1,r2,r3,r4,r5⟩:=Hf (abj.go (w':=W7.drew) (Below.refl W7.heap.size W7).drew) abk hMb hq7.drew (by omega);obtain⟨A',c',rfl,-⟩:=r2.slQ (by omega);have hne:∀q,(Value.slice Av j cv).ownBlock=some q->bo+1<=q/\q<wr.heap.size/\q≠mb:=fun q hq=>⟨(MJ.out.2.2.2 q (bJ.2 hq)).1,(MJ.out.2.2.2 q (bJ.2 hq)).2,fun e=>hS.out.ne (by rw[hq,e])⟩;have hne':(Value.slice A' (j+1) c').ownBlock≠some mb:=by
       rcases r4 with e|e;·rw[e];exact hS.out.ne
       rw[e];intro e2;have:=Option.some.inj e2;have:W7.drew.heap.size=W7.heap.size:=rfl;omega
      have FA:Fr w wA ([(w.heap.size,zQ)]++ [(mb, [.slice B k d,.slice Av j cv])]):=by refine Fr.grown (W:=W7.drew) (HS1.out.1.drew.sub (fun x hx=>by simp at hx |-;rcases hx with rfl|rfl<;>simp)) r3 (fun q hq=>⟨by have:=hne q hq;have:=HB.out;omega,fun b vs hm=>?_⟩);have h1:=hne q hq;have h2:=HB.out;simp at hm;rcases hm with⟨rfl,-⟩|⟨rfl,-⟩<;>omega
      obtain⟨W8,Vt,F8,hB8,kp8⟩:=Fr.acd (y:=mb) FA (by intro b vs hm;have:=HB.out;simp at hm;omega) (.slice A' (j+1) c');have hmA:=FA.at_ mb [.slice B k d,.slice Av j cv] (by simp) 1 _ rfl;have acP:=(Fa hmA.1 hmA.2 A' (j+1) c').trans (by rw[Vt]);refine op1 FA ?_;intros;refine op1 F8 ?_;intros;have hcm:=(HS1.out.1.at_ mb [.slice B k d,.slice Av j cv] (by simp) 1 _ rfl).1;have hcy:=fun i u hu=>(HS1.out.1.at_ y21 [.bool U9,.slice Va n21 c21,.bool U_,.slice Vb m21 Vl] (by simp) i u hu).1;have hym:mb∉bP (.slice Av j cv):=fun hm=>(hne mb (bJ.1 hm)).2.2 rfl;have hyy:y21∉bP (.slice Av j cv):=fun hm=>by have h1:=(hne y21 (bJ.1 hm)).2.1;have h2:=MJ.out.2.2.1.size;have h3:=acf.out;omega
      have v0:=aF hym hcm;have v1:=aF hyy (hcy 0 _ rfl);have v2:=aF hyy (hcy 1 _ rfl);have v3:=aF hyy (hcy 2 _ rfl);have v4:=aF hyy (hcy 3 _ rfl);have RUN:=Hd r1;have HF:=Hd (show aah w W8 M bo mb B k d (.slice A' (j+1) c') (j+1) (jf ins [] (p.take (j+1)))from⟨F8,(gG.grown (w:=W7.drew) ro7.out r3 (fun e=>by have:=hne bo e;omega)).keep kp8 (by have:=HB.out;simp;omega),by rw[H.out.step MJ.out.1];exact bD.abb r2 kp8 (by simp) (fun g hg hm=>hne' (by simp at hm;rw[hg,hm])),hne'⟩);clear hcm hcy hym hyy hmA F8 hB8 kp8 FA hne hne' r1 r2 r3 r4 hq7 hMb hmW Yq abj abk hbj hbw Vt;refine Go.Proofs.YtefnknhjlejalaaGreatDoor.aP (bP (.slice Av j cv)) 10 (by kernel_rfl) (by kernel_rfl) ?_;refine sD 0 ?_;refine sD 1 ?_;refine sD 2 ?_;refine sD 3 ?_;refine sD 4 ?_;refine sD 5 ?_;refine aaA 6 fun K hK=>?_;gi_wp2;refine⟨Go.Proofs.YtefnknhjlejalaaGreatDoor.Keeps.of_below (show Below W7.drew.heap.size W7.drew _ from(Below.refl _ _).alloc (Nat.le_refl _) _) _,?_⟩;refine lit ?_;refine Go.Proofs.YtefnknhjlejalaaGreatDoor.oQ 7 [] (by kernel_rfl) (Go.Proofs.YtefnknhjlejalaaGreatDoor.dN (by decide) rfl ?_ (fun K hK=>?_) Go.Proofs.YtefnknhjlejalaaGreatDoor.gU);·exact wy
      refine aI _ _ _ rfl rfl rfl RUN.out (hK _ _ ⟨r5,?_⟩);clear hK K;refine lit ?_;refine sD 8 ?_;refine sD 9 ?_;refine aaB 1 ?_;refine jW fun K hK K' hK'=>?_;gi_wp2;refine tail_nil _ ?_;simp only[cu];gi_wp2;exact⟨⟨j+1,_,by omega,by go_num,HF⟩,by simp[intOf];omega⟩
    ·have hjn:j=n:=by omega
     clear hj hlt;subst hjn;obtain⟨kk,hkk⟩:=aC (j-1);have aai:kk<j:=by omega
     rw[hkk]at k1;have hres:=H.out.res;rw[hkk]at hres;obtain⟨b9,o9,p9,q9,A9,n9,c9,B9,m9,d9,rfl,⟨i0,i1,i2,i3⟩,jJ⟩:=Ql.at_ aai;rw[hres]at jJ;have hx:=fun i u hu=>hS.out.fr.at_ w.heap.size zQ (by simp) i u hu;have hls:∀q,q∈w.heap.size::M->q∈bP (.slice (some ⟨b9,o9,none⟩) j cv)++(mb::w.heap.size::M):=fun q hq=>by simp only[List.mem_append,List.mem_cons]at hq |-;rcases hq with hq|hq<;>simp[hq]
     obtain⟨wF,hwF,t0,t1,t2,t3,hQ,bF⟩:=nN (M:=M) (hx 0 _ rfl).1 (hx 1 _ rfl).1 (hx 2 _ rfl).1 (hx 3 _ rfl).1 (x:=zJ p ins) (jJ.num.sl.less hls) (jJ.den.sl.less hls) jJ.num.neg jJ.den.neg hS.out.fr.bl (Nat.le_refl _);have acQ:=(Aa (hx 0 _ rfl).1 (hx 1 _ rfl).1 (hx 2 _ rfl).1 (hx 3 _ rfl).1 (hx 0 _ rfl).2 (hx 1 _ rfl).2 (hx 2 _ rfl).2 (hx 3 _ rfl).2 p9 q9 A9 B9 n9 c9 m9 d9).trans (by rw[hwF]);have HW:=Zw t0 t1 t2 t3 hQ bF;clear hwF hx hls jJ Ql hres hkk t0 t1 t2 t3 hQ bF;gi_wp2;exact⟨rfl,.tuple #[.agg #[.bool p9,.slice A9 n9 c9,.bool q9,.slice B9 m9 d9],.int .i64 (fuel-j),.int .i64 0],by simp[results,go_sem,HW.out.1,HW.out.2.1,HW.out.2.2.1,HW.out.2.2.2.1],_,rfl,HW.out.2.2.2.2.1,HW.out.2.2.2.2.2⟩
end U
end Go.Proofs.YtefnknhjlejalaaGreatDoor
