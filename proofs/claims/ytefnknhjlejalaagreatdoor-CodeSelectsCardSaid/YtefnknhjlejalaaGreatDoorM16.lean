/- Lemmas and walks; no statement is proved here. -/
import Derived.Test.YtefnknhjlejalaaGreatDoorM15
set_option linter.unusedVariables false
set_option linter.unusedSimpArgs false
set_option maxRecDepth 20000
set_option maxHeartbeats 6000000
namespace Go.Proofs.YtefnknhjlejalaaGreatDoor
open Go.Proofs.Tryz Go.RowKit Go.Shelf
theorem afi{p:Prop}(h:p:=by
 gi_wp2_with (gi_at_builtin;refine wpListIn_plain rfl fun K hK'=>?_;refine aI _ _ _ rfl rfl rfl JR.out (hK' _ _ ?_);clear hK' K)
 exact⟨⟨k+1,rq,_,by omega,rfl,HR.out.2.2.1,HR.out.1,HR.out.2.1,by omega,HC.out.1,HC.out.2.1,HC.out.2.2.1,HC.out.2.2.2⟩,by have:=HR.out.2.2.2;simp[intOf];omega⟩):p:=h
theorem ac0{p:Prop}(h:p:=by
 have e3:(r:Int)%1073741824=((r%BB:Nat):Int):=rfl;have e4:(r:Int)/1073741824=((r/BB:Nat):Int):=rfl;have c0':=(r3.cell (p:=⟨w.heap.size,0,none⟩) (Nat.lt_succ_self _)).trans c0;have c1':=(r3.cell (p:=⟨w.heap.size,1,none⟩) (Nat.lt_succ_self _)).trans c1;have f0':=(r3.frozen (p:=⟨w.heap.size,0,none⟩) (Nat.lt_succ_self _)).trans f0;have f1':=(r3.frozen (p:=⟨w.heap.size,1,none⟩) (Nat.lt_succ_self _)).trans f1;have HC:=h_ c0' c1' f0' f1';clear c0' c1' f0' f1' c0 c1 f0 f1;clear r1 r2 r3 hstep hI hO hd1;obtain⟨rm,hrm⟩:=aC (r%BB);obtain⟨rq,hrq⟩:=aC (r/BB);rw[hrm]at JR HR e1 e3 t1 hmb;rw[hrq]at HR e2 e4 t2 yK;clear hrm hrq;rcases Nat.eq_zero_or_pos rm with rfl|hm0;·rw[show((0:Nat):Int)=0 from rfl]at JR;exact afi
 have hm1:¬rm=0:=by omega
 exact afi):p:=h
theorem ac3{p:Prop}(h:p:=by
 refine ent func14 rfl ntmps14 ?_
 gi_wp2_with (first
  |(refine⟨trivial,?_⟩;gi_at_call 30;have g:=G3.out;clear g;refine Cn (zD _ B m d _ HSM.out) ?_;rintro e w4 ⟨rfl,hb4⟩;rw[HZR.out];have F4:=G3.out.1.go hb4;have o0:=F4.a0;have o1:=F4.a1;have o2:=F4.a2;have o3:=F4.a3;have G4:=Hd2 F4 hb4;clear F4 hb4)
  |(refine⟨trivial,?_⟩;gi_at_call 29;have g:=G2.out;clear g;refine Cn (fZ B m d _ l2 _ ((X.out.2.1.go F.out.bl).go G2.out.2)) ?_;rintro e w3 ⟨rfl,hb3⟩;rw[EX.out];have F3:=G2.out.1.go hb3;have y0:=F3.a0;have y1:=F3.a1;have y2:=F3.a2;have y3:=F3.a3;have G3:=Hd2 F3 hb3;clear hb3 F3)
  |(refine Cl 29 (fZ A n c p l1 _ (X.out.1.go F.out.bl)) ?_;rintro e w2 ⟨rfl,hb2⟩;rw[Dx.out];have F2:=F.out.go hb2;have u0:=F2.a0;have u1:=F2.a1;have u2:=F2.a2;have u3:=F2.a3;have G2:=Hd2 F2 hb2;clear F2 hb2)
  |(refine⟨trivial,?_⟩))
 go_ret;exact⟨by rw[HR.out];rfl,G4.out.1.bl⟩):p:=h
variable {M:List Nat}{n:Int}{w:World}
section
attribute [local go_sem] Oper.semAt_some
theorem TF(hM:b_ M w)(hn:i64 n)(hs:0<=n):
 Calls prog 33 #[.int .i64 n] w fun e w'=>∃u,e=.returned u/\ZV w' M u n/\Below w.heap.size w w':=by
 refine wid ?_;have hx3:(bC n.natAbs).length<=3:=BL (by unfold i64 at hn;omega);obtain⟨x,hx⟩:=aC n.natAbs;have hxl:x<=9223372036854775808:=by unfold i64 at hn;omega
 obtain rfl:n=(x:Int):=by omega
 have hlt:decide (((x:Int):Int)<0)=false:=by simp;try omega
 rw[hx]at hx3;have P:=h_ hx3 hM hx hlt;unfold i64 at hn;clear hx3 hM hx;refine ent func33 rfl ntmps33 ?_;gi_wp2;gi_loopw[3,4] (fun v u wr=>∃(k r:Nat) (out:List Nat),r<=x/\u=.int .i64 ((r:Int))/\Hid (bC x=out++bC r/\out.length=k)/\Hid (wr.ownsRow (w.heap.size+1) 3 1 v k ((ints out).map (Value.int .i64)))/\Below w.heap.size w wr/\w.heap.size+1<=wr.heap.size/\wr.cell? ⟨w.heap.size,0,none⟩=some (.bool false)/\wr.cell? ⟨w.heap.size,1,none⟩=some (.slice none 0 0)/\wr.frozen? ⟨w.heap.size,0,none⟩=false/\wr.frozen? ⟨w.heap.size,1,none⟩=false) (fun _ u _=>(intOf u).natAbs);case atStart=>exact ac5
 case round=>
  obtain⟨k,r,out,hr,rfl,hI,hO,hb,hsz,c0,c1,f0,f1⟩:=hrel;by_cases hr0:0<r
  ·have hk:k<=3:=by exact ady
   obtain⟨v',W',r1,r2,r3,gg,cc,rfl⟩:=yC hO.out hsz (by omega) ((r%BB:Nat):Int);rw[show ints out++ [((r%BB:Nat):Int)]=ints (out++ [r%BB]) by simp[ints]]at r2;have hstep:bC x=(out++ [r%BB])++bC (r/BB)/\(out++ [r%BB]).length=k+1:=by exact aeB
   have hd1:r/BB<r:=Nat.div_lt_self hr0 rE;have JR:=Hd r1;have HR:=h_ r2 (hb.trans (r3.mono (by omega))) hstep hd1;have hs3:=r3.size;have hmb:r%BB<=1073741823:=g_ (Nat.mod_lt _ eX);have yK:r/BB<=r:=Nat.div_le_self _ _;have t1:(r:Int).tmod 1073741824=((r%BB:Nat):Int):=by rw[Int.tmod_eq_emod_of_nonneg (by omega)];rfl
   have t2:(r:Int).tdiv 1073741824=((r/BB:Nat):Int):=by rw[Int.tdiv_eq_ediv_of_nonneg (by omega)];rfl
   have e1:((r:Int)).tmod 1073741824=(r%BB:Nat):=by first|exact t1|(rw[Int.neg_tmod,t1])
   have e2:((r:Int)).tdiv 1073741824=((r/BB:Nat):Int):=by first|exact t2|(rw[Int.neg_tdiv,t2])
   exact ac0
  ·obtain rfl:r=0:=by omega
   have hk:k<=3:=by exact ady
   have hd:bC x=out:=by have:=hI.out.1;rwa [bU,List.append_nil]at this
   have hg:Good out:=by rw[<-hd];exact aO x
   obtain⟨O,cO,rfl,hsl⟩:=Sl.BO hO.out (fU hg) (by omega) (M:=w.heap.size::M) (by intro j hj;exact aeg);rw[<-hd]at hsl;have hz:ZV wr (w.heap.size::M) (.agg #[.bool false,.slice O k cO]) ((x:Int)):=⟨O,k,cO,by rw[show aG ((x:Int))=false from P.out.2.2.2],by rw[show bG ((x:Int))=bC x from by unfold bG;rw[P.out.2.2.1]];exact hsl⟩;obtain⟨wF,hwF,r0,r1,WH,Az⟩:=fin2 (M:=M) c0 c1 hz hb (Nat.le_refl _);have HF:=Hd5 hwF r0 r1 WH Az;clear hwF r0 r1 WH Az hz hsl hO hI hd hg;gi_wp2
   first
    |rw[HF.out.1]
    |rw[show decide (0<x)=true from decide_eq_true (by omega),HF.out.1]
   exact⟨rfl,.agg #[.bool false,.slice O k cO],by simp[results,go_sem,HF.out.2.1,HF.out.2.2.1],_,rfl,HF.out.2.2.2.1,HF.out.2.2.2.2⟩
theorem TG(hM:b_ M w)(hn:i64 n)(hs:n<0):
 Calls prog 33 #[.int .i64 n] w fun e w'=>∃u,e=.returned u/\ZV w' M u n/\Below w.heap.size w w':=by
 refine wid ?_;have hx3:(bC n.natAbs).length<=3:=BL (by unfold i64 at hn;omega);obtain⟨x,hx⟩:=aC n.natAbs;have hxl:x<=9223372036854775808:=by unfold i64 at hn;omega
 obtain rfl:n= -(x:Int):=by omega
 have hlt:decide ((-(x:Int):Int)<0)=true:=by simp;try omega
 rw[hx]at hx3;have P:=h_ hx3 hM hx hlt;unfold i64 at hn;clear hx3 hM hx;refine ent func33 rfl ntmps33 ?_;gi_wp2;gi_loopw[3,4] (fun v u wr=>∃(k r:Nat) (out:List Nat),r<=x/\u=.int .i64 (-(r:Int))/\Hid (bC x=out++bC r/\out.length=k)/\Hid (wr.ownsRow (w.heap.size+1) 3 1 v k ((ints out).map (Value.int .i64)))/\Below w.heap.size w wr/\w.heap.size+1<=wr.heap.size/\wr.cell? ⟨w.heap.size,0,none⟩=some (.bool false)/\wr.cell? ⟨w.heap.size,1,none⟩=some (.slice none 0 0)/\wr.frozen? ⟨w.heap.size,0,none⟩=false/\wr.frozen? ⟨w.heap.size,1,none⟩=false) (fun _ u _=>(intOf u).natAbs);case atStart=>exact ac5
 case round=>
  obtain⟨k,r,out,hr,rfl,hI,hO,hb,hsz,c0,c1,f0,f1⟩:=hrel;by_cases hr0:0<r
  ·have hk:k<=3:=by exact ady
   obtain⟨v',W',r1,r2,r3,gg,cc,rfl⟩:=yC hO.out hsz (by omega) ((r%BB:Nat):Int);rw[show ints out++ [((r%BB:Nat):Int)]=ints (out++ [r%BB]) by simp[ints]]at r2;have hstep:bC x=(out++ [r%BB])++bC (r/BB)/\(out++ [r%BB]).length=k+1:=by exact aeB
   have hd1:r/BB<r:=Nat.div_lt_self hr0 rE;have JR:=Hd r1;have HR:=h_ r2 (hb.trans (r3.mono (by omega))) hstep hd1;have hs3:=r3.size;have hmb:r%BB<=1073741823:=g_ (Nat.mod_lt _ eX);have yK:r/BB<=r:=Nat.div_le_self _ _;have t1:(r:Int).tmod 1073741824=((r%BB:Nat):Int):=by rw[Int.tmod_eq_emod_of_nonneg (by omega)];rfl
   have t2:(r:Int).tdiv 1073741824=((r/BB:Nat):Int):=by rw[Int.tdiv_eq_ediv_of_nonneg (by omega)];rfl
   have e1:(-(r:Int)).tmod 1073741824=(-((r%BB:Nat):Int)):=by first|exact t1|(rw[Int.neg_tmod,t1])
   have e2:(-(r:Int)).tdiv 1073741824= -((r/BB:Nat):Int):=by first|exact t2|(rw[Int.neg_tdiv,t2])
   exact ac0
  ·obtain rfl:r=0:=by omega
   have hk:k<=3:=by exact ady
   have hd:bC x=out:=by have:=hI.out.1;rwa [bU,List.append_nil]at this
   have hg:Good out:=by rw[<-hd];exact aO x
   obtain⟨O,cO,rfl,hsl⟩:=Sl.BO hO.out (fU hg) (by omega) (M:=w.heap.size::M) (by intro j hj;exact aeg);rw[<-hd]at hsl;have hz:ZV wr (w.heap.size::M) (.agg #[.bool true,.slice O k cO]) (-(x:Int)):=⟨O,k,cO,by rw[show aG (-(x:Int))=true from P.out.2.2.2],by rw[show bG (-(x:Int))=bC x from by unfold bG;rw[P.out.2.2.1]];exact hsl⟩;obtain⟨wF,hwF,r0,r1,WH,Az⟩:=fin2 (M:=M) c0 c1 hz hb (Nat.le_refl _);have HF:=Hd5 hwF r0 r1 WH Az;clear hwF r0 r1 WH Az hz hsl hO hI hd hg;gi_wp2
   first
    |rw[HF.out.1]
    |rw[show decide (0<x)=true from decide_eq_true (by omega),HF.out.1]
   exact⟨rfl,.agg #[.bool true,.slice O k cO],by simp[results,go_sem,HF.out.2.1,HF.out.2.2.1],_,rfl,HF.out.2.2.2.1,HF.out.2.2.2.2⟩
theorem zC(hM:b_ M w)(hn:i64 n):
 Calls prog 33 #[.int .i64 n] w fun e w'=>∃u,e=.returned u/\ZV w' M u n/\Below w.heap.size w w':=by
 by_cases h:n<0;·exact TG hM hn h
 ·exact TF hM hn (by omega)
theorem zD(q:Bool)(A:Option Addr)(n c:Nat)(w:World)(hs:n<=140737488355328):
 CB 30 #[.agg #[.bool q,.slice A n c]] (.bool (decide (n=0))) w:=by
 refine wid ?_;by_cases hn:n=0;all_goals(
 refine ent func30 rfl ntmps30 ?_;gi_wp2;go_ret;exact⟨by first|rfl|simp[hn]|(simp;omega),by exact bel⟩)
theorem MI{A B:Option Addr}{n c m d:Nat}{p q:Bool}{l1 l2:List Int}(hM:b_ M w)(hx:Sl Int w M A n c l1)(hy:Sl Int w M B m d l2):
 CB 14 #[.agg #[.bool p,.slice A n c,.bool q,.slice B m d]] (.int .i64 (qM (dF ((p,l1),(q,l2))))) w:=by
 refine wid ?_;obtain⟨W1,hW1⟩:=aC (w.alloc (.cells #[.bool p,.slice A n c,.bool q,.slice B m d] 30));have F1:Bx w W1 p q (.slice A n c) (.slice B m d):=by rw[<-hW1];exact Bx.start w _ _ _ _
 have F:=Hd F1;have e0:=F1.a0;have e1:=F1.a1;have e2:=F1.a2;have e3:=F1.a3;have hlm:l2.length=m:=hy.len;have X:=fB hx hy hM;have HSM:=Hd hy.small;clear hx hy hM F1;by_cases hk1:gZ (p,l1)=true
 ·have Dx:=Hd (show rJ (gZ (p,l1))=0 by rw[hk1];rfl);by_cases hk2:gZ (q,l2)=true
  ·have EX:=Hd (show rJ (gZ (q,l2))=0 by rw[hk2];rfl);obtain⟨z1,YL,Zg⟩:=(nU _).1 hk1;obtain⟨z2,YM,Zh⟩:=(nU _).1 hk2;have ep:aG z1=p:=(congrArg Prod.fst YL).symm;have eq:aG z2=q:=(congrArg Prod.fst YM).symm;have el1:ints (bG z1)=l1:=(congrArg Prod.snd YL).symm;have el2:ints (bG z2)=l2:=(congrArg Prod.snd YM).symm;have hd1:DT (p,l1)=z1:=by rw[YL,nG]
   have hd2:DT (q,l2)=z2:=by rw[YM,nG]
   have hlz:(bG z2).length=m:=by rw[<-hlm,<-el2,jm]
   have hm0:m=0↔z2=0:=by
    rw[<-hlz];constructor;·intro e;have:=jO.1 (List.length_eq_zero_iff.1 e);omega
    rintro rfl;rw[show bG 0= []from bU];rfl
   have hgf:=tK Zg Zh;have XO:=fB Zg Zh hgf;have HE:=h_ ep eq el1 el2;have WL:dF ((p,l1),(q,l2))=(decide (0<z2)&&decide (Int.gcd z1 z2=1)):=by simp[dF,hk1,hk2,hd1,hd2]
   have Z9:=Hd WL;clear WL Zg Zh hgf YL YM el1 el2 hd1 hd2 ep hlm;by_cases hmz:m=0;·have hz2:=hm0.1 hmz;have HR:=Hd (show qM (dF ((p,l1),(q,l2)))=100 by rw[Z9.out,hz2];rfl);have HZR:=Hd (show decide (m=0)=true from decide_eq_true hmz);clear hmz hm0 hlz hz2 eq;exact ac3
   have HZR:=Hd (show decide (m=0)=false from decide_eq_false hmz);have ZM:z2≠0:=fun e=>hmz (hm0.2 e);clear hmz hm0 hlz;cases q;case true=>
    have hneg:¬0<z2:=by unfold aG at eq;have:=of_decide_eq_true eq;omega
    have HR:=Hd (show qM (dF ((p,l1),(true,l2)))=100 by rw[Z9.out,decide_eq_false hneg];rfl);clear eq hneg ZM;exact ac3
   case false=>
    have hpos:0<z2:=by unfold aG at eq;have:=of_decide_eq_false eq;omega
    obtain⟨cc,hcc⟩:=aC (tV (Int.gcd z1 z2:Int) 1);have Z8:0<Int.gcd z1 z2:=Int.gcd_pos_iff.2 (.inr ZM);have hc0:cc=0↔Int.gcd z1 z2=1:=by
     rw[<-hcc];unfold tV
     repeat' split
     all_goals omega
    have HCC:=Hd hcc;have HP:=Hd hpos;clear eq hpos ZM hcc Z8;by_cases hg1:cc=0;all_goals(
    first
     |have HR:=Hd (show qM (dF ((p,l1),(false,l2)))=0 by rw[Z9.out,decide_eq_true HP.out,decide_eq_true (hc0.1 hg1)];rfl)
     |have HR:=Hd (show qM (dF ((p,l1),(false,l2)))=100 by rw[Z9.out,decide_eq_true HP.out,decide_eq_false (fun e=>hg1 (hc0.2 e))];rfl)
    clear hc0;refine ent func14 rfl ntmps14 ?_
    gi_wp2_with (first
     |(refine Cl 31 (W_ (M:=M) (a:=z1) (b:=z2) (X.out.2.2.le G4.out.1.bl.size) ⟨A,n,c,by rw[HE.out.1],by rw[HE.out.2.2.1];exact X.out.1.go G4.out.1.bl⟩ ⟨B,m,d,by rw[HE.out.2.1],by rw[HE.out.2.2.2];exact X.out.2.1.go G4.out.1.bl⟩ XO.out.1 XO.out.2.1) ?_;rintro e w5 ⟨u5,rfl,r_,hb5⟩;obtain⟨q5,A5,n5,c5,rfl,hy5⟩:=ZC.of r_;obtain⟨W6,X0⟩:=aC (w5.alloc (.cells #[.bool q5,.slice A5 n5 c5] 28));have hb6:Below w5.heap.size w5 W6:=by rw[<-X0];exact bel
       have l0:W6.cell? ⟨w5.heap.size,0,none⟩=some (.bool q5):=by rw[<-X0];simp[go_sem]
       have l1:W6.cell? ⟨w5.heap.size,1,none⟩=some (.slice A5 n5 c5):=by rw[<-X0];simp[go_sem]
       have v0:=ah l0;have v1:=ah l1;have G6:=fB ((hy5.go hb6).drew) (((G4.out.1.bl.trans (hb5.mono G4.out.1.bl.size)).trans (hb6.mono (Nat.le_trans G4.out.1.bl.size hb5.size))).drew) trivial;clear r_ hy5 hb5 hb6)
     |(refine⟨trivial,?_⟩;gi_at_call 30;have g:=G3.out;clear g;refine Cn (zD _ B m d _ HSM.out) ?_;rintro e w4 ⟨rfl,hb4⟩;rw[HZR.out];have F4:=G3.out.1.go hb4;have o0:=F4.a0;have o1:=F4.a1;have o2:=F4.a2;have o3:=F4.a3;have G4:=Hd2 F4 hb4;clear F4 hb4)
     |(refine⟨trivial,?_⟩;gi_at_call 29;have g:=G2.out;clear g;refine Cn (fZ B m d _ l2 _ ((X.out.2.1.go F.out.bl).go G2.out.2)) ?_;rintro e w3 ⟨rfl,hb3⟩;rw[EX.out];have F3:=G2.out.1.go hb3;have y0:=F3.a0;have y1:=F3.a1;have y2:=F3.a2;have y3:=F3.a3;have G3:=Hd2 F3 hb3;clear hb3 F3)
     |(refine Cl 29 (fZ A n c p l1 _ (X.out.1.go F.out.bl)) ?_;rintro e w2 ⟨rfl,hb2⟩;rw[Dx.out];have F2:=F.out.go hb2;have u0:=F2.a0;have u1:=F2.a1;have u2:=F2.a2;have u3:=F2.a3;have G2:=Hd2 F2 hb2;clear F2 hb2)
     |fail)
    refine aP [] 8 (by kernel_rfl) (by kernel_rfl) ?_;refine ay 0 ?_;refine eU 1 fun K hK=>?_;gi_wp2;refine Cm (zC (M:=M) (n:=1) (X.out.2.2.le G6.out.2.1.size) (by unfold i64;omega)) ?_;rintro e w7 ⟨u7,rfl,hz7,hb7⟩;have G7:=fB hz7 (G6.out.1.go hb7) (G6.out.2.1.trans (hb7.mono G6.out.2.1.size));clear hz7;refine hK _ _ ⟨?_,?_⟩;clear hK K;·exact Keeps.of_below hb7 []
    refine lit ?_;clear hb7;refine eU 2 fun K hK=>?_;gi_wp2;refine Cm (WU (M:=M) (a:=(Int.gcd z1 z2:Int)) (b:=1) (X.out.2.2.le G7.out.2.2.size) G7.out.2.1.zv G7.out.1 XO.out.2.2 (En (by unfold i64;omega))) ?_;rintro e w8 ⟨rfl,hb8⟩;rw[HCC.out];have G8:=Hd (G7.out.2.2.trans (hb8.mono G7.out.2.2.size));refine hK _ _ ⟨?_,?_⟩;clear hK K;·exact Keeps.of_below hb8 []
    refine lit ?_;clear hb8;refine ay 3 ?_;refine ay 4 ?_;refine ay 5 ?_;refine ay 6 ?_;refine ay 7 ?_;refine iq 0 ?_;refine tail_nil _ ?_;simp only[cu];gi_wp2;go_ret;exact⟨by rw[HR.out];rfl,G8.out⟩)
  have EX:=Hd (show rJ (gZ (q,l2))=90 by simp[hk2,rJ]);have HR:=Hd (show qM (dF ((p,l1),(q,l2)))=100 by simp[dF,hk2,qM]);refine ent func14 rfl ntmps14 ?_
  gi_wp2_with (first
   |(refine⟨trivial,?_⟩;gi_at_call 29;have g:=G2.out;clear g;refine Cn (fZ B m d _ l2 _ ((X.out.2.1.go F.out.bl).go G2.out.2)) ?_;rintro e w3 ⟨rfl,hb3⟩;rw[EX.out];have F3:=G2.out.1.go hb3;have y0:=F3.a0;have y1:=F3.a1;have y2:=F3.a2;have y3:=F3.a3;have G3:=Hd2 F3 hb3;clear hb3 F3)
   |(refine Cl 29 (fZ A n c p l1 _ (X.out.1.go F.out.bl)) ?_;rintro e w2 ⟨rfl,hb2⟩;rw[Dx.out];have F2:=F.out.go hb2;have u0:=F2.a0;have u1:=F2.a1;have u2:=F2.a2;have u3:=F2.a3;have G2:=Hd2 F2 hb2;clear F2 hb2)
   |(refine⟨trivial,?_⟩))
  go_ret;exact⟨by rw[HR.out];rfl,G3.out.1.bl⟩
 ·have Dx:=Hd (show rJ (gZ (p,l1))=90 by simp[hk1,rJ]);have HR:=Hd (show qM (dF ((p,l1),(q,l2)))=100 by simp[dF,hk1,qM]);refine ent func14 rfl ntmps14 ?_
  gi_wp2_with (first
   |(refine Cl 29 (fZ A n c p l1 _ (X.out.1.go F.out.bl)) ?_;rintro e w2 ⟨rfl,hb2⟩;rw[Dx.out];have F2:=F.out.go hb2;have u0:=F2.a0;have u1:=F2.a1;have u2:=F2.a2;have u3:=F2.a3;have G2:=Hd2 F2 hb2;clear F2 hb2)
   |(refine⟨trivial,?_⟩))
  go_ret;exact⟨by rw[HR.out];rfl,G2.out.1.bl⟩
end
end Go.Proofs.YtefnknhjlejalaaGreatDoor
