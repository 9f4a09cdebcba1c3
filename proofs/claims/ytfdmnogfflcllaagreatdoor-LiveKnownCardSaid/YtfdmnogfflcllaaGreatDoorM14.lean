/- Lemmas. -/
import Derived.Test.YtfdmnogfflcllaaGreatDoorM13
set_option linter.unusedVariables false
set_option linter.unusedSimpArgs false
set_option maxRecDepth 100000
set_option maxHeartbeats 20000000
namespace Go.Proofs.YtfdmnogfflcllaaGreatDoor
open Go.Proofs.Tryz Go.RowKit Go.Shelf
theorem Zo{p:Prop}(h:p:=by
 gi_wp2_with (gi_at_builtin;refine cY rfl fun K i=>?_;refine aI _ _ _ rfl rfl rfl l.out (i _ _ ?_);clear i K)
 exact⟨⟨k+1,rq,_,oE,rfl,m.c,m.a,m.b,oE,t.a,t.b,t.c,t.w⟩,by have:=m.w;simp[intOf];omega⟩):p:=h
theorem wP{p:Prop}(h:p:=by
 have e3:(r:Int)%1073741824=((r%BB:Nat):Int):=rfl;have e4:(r:Int)/1073741824=((r/BB:Nat):Int):=rfl;have G:=(g.cell (p:=⟨w,0,none⟩) (eS _)).trans q;have H:=(g.cell (p:=⟨w,1,none⟩) (eS _)).trans C;have I:=(g.frozen (p:=⟨w,0,none⟩) (eS _)).trans f0;have J:=(g.frozen (p:=⟨w,1,none⟩) (eS _)).trans f1;have t:=h_ G H I J;clear G H I J q C f0 f1;clear h V g T f o N;obtain⟨Z,R⟩:=aC (r%BB);obtain⟨rq,S⟩:=aC (r/BB);rw[R]at l m e1 e3 B ab;rw[S]at m e2 e4 D yK;clear R S;rcases eh Z with rfl|ae;·rw[show((0:Nat):Int)=0 from rfl]at l;exact Zo
 have af:¬Z=0:=oE;exact Zo):p:=h
theorem zn{p:Prop}(h:p:=by
 refine ent func63 rfl ntmps63 ?_
 gi_wp2_with (first
  |(refine⟨bq,?_⟩;gi_at_call 113;have g:=Y.out;clear g;refine Cn (zD _ B m d _ U.out) ?_;rintro e w4 ⟨rfl,hb4⟩;rw[H.out];have F4:=Y.a.go hb4;have o0:=F4.a0;have o1:=F4.a1;have o2:=F4.a2;have o3:=F4.a3;have k:=Hd2 F4 hb4;clear F4 hb4)
  |(refine⟨bq,?_⟩;gi_at_call 112;have g:=h.out;clear g;refine Cn (fZ B m d _ l2 _ ((X.b.go F.out.bl).go h.u)) ?_;rintro e w3 ⟨rfl,i⟩;rw[EX.out];have F3:=h.a.go i;have y0:=F3.a0;have y1:=F3.a1;have y2:=F3.a2;have y3:=F3.a3;have Y:=Hd2 F3 i;clear i F3)
  |(refine Cl 112 (fZ A n c p l1 _ (X.a.go F.out.bl)) ?_;rintro e T ⟨rfl,f⟩;rw[s.out];have j:=F.out.go f;have P:=j.a0;have Q:=j.a1;have R:=j.a2;have S:=j.a3;have h:=Hd2 j f;clear j f)
  |(refine⟨bq,?_⟩))
 go_ret;exact⟨by rw[l.out];rfl,k.a.bl⟩):p:=h
theorem Bg{p:Prop}(h:p:=by have E:=k_ (base:=w.heap.size+1) (size:=1) (e:=3) (w.alloc (.cells #[.bool false,.slice none 0 0] 46)) #[] 0 oO (by simp[maxLen]) rfl;rw[show(w.alloc (.cells #[.bool false,.slice none 0 0] 46)).heap.size=w.heap.size+1 by simp]at E;exact⟨0,x, [],bh _,rfl,Hd2 (de _).symm rfl,E,by exact bel,oO,oX,oX,oX,oX⟩):p:=h
theorem Y3{p:Prop}(h:p:=by
 rcases cB.1 z with rfl|z;·omega
 have:=P.b j z;omega):p:=h
variable {M:List Nat}{n:Int}{w:World}
section
attribute [local go_sem] cK
theorem TF(hM:b_ M w)(hn:i64 n)(hs:0<=n):
 Calls prog 50 #[.int .i64 n] w fun e w'=>∃u,e=.returned u/\ZV w' M u n/\Below w w w':=by
 refine wid ?_;have A:(bC n.natAbs).length<=3:=BL (by unfold i64 at hn;omega);obtain⟨x,hx⟩:=aC n.natAbs;have ah:x<=9223372036854775808:=by unfold i64 at hn;omega
 obtain rfl:n=(x:Int):=oE;have aa:decide (((x:Int):Int)<0)=false:=by simp;try omega
 rw[hx]at A;have P:=h_ A hM hx aa;unfold i64 at hn;clear A hM hx;refine ent func50 rfl ntmps50 ?_;gi_wp2;gi_loopw[3,4] (fun v u wr=>∃(k r:Nat) (out:List Nat),r<=x/\u=.int .i64 ((r:Int))/\Hid (bC x=out++bC r/\out.length=k)/\Hid (wr.ownsRow (w.heap.size+1) 3 1 v k ((ints out).map (Value.int .i64)))/\Below w w wr/\w.heap.size+1<=wr.heap.size/\wr.cell? ⟨w,0,none⟩=some (.bool false)/\wr.cell? ⟨w,1,none⟩=some (.slice none 0 0)/\wr.frozen? ⟨w,0,none⟩=false/\wr.frozen? ⟨w,1,none⟩=false) (fun _ u _=>(intOf u).natAbs);case atStart=>exact Bg
 case round=>
  obtain⟨k,r,out,hr,rfl,f,o,hb,ad,q,C,f0,f1⟩:=hrel;by_cases ac:0<r
  ·have hk:k<=3:=by have:=P.a;rw[f.a,cH,f.u]at this;omega
   obtain⟨v',W',h,V,g,gg,cc,rfl⟩:=yC o.out ad oE ((r%BB:Nat):Int);rw[show ints out++ [((r%BB:Nat):Int)]=ints (out++ [r%BB]) by simp[ints]]at V;have T:bC x=(out++ [r%BB])++bC (r/BB)/\(out++ [r%BB]).length=k+1:=by refine⟨?_,by simp[f.u]⟩;rw[f.a,iP oE];simp
   have N:r/BB<r:=Nat.div_lt_self ac rE;have l:=Hd h;have m:=h_ V (hb.trans (g.mono oE)) T N;have ag:=g.size;have ab:r%BB<=1073741823:=g_ (jN _ eX);have yK:r/BB<=r:=nQ _ _;have B:(r:Int).tmod 1073741824=((r%BB:Nat):Int):=by rw[jz oE];rfl
   have D:(r:Int).tdiv 1073741824=((r/BB:Nat):Int):=by rw[eB oE];rfl
   have e1:((r:Int)).tmod 1073741824=(r%BB:Nat):=by first|exact B|(rw[Int.neg_tmod,B])
   have e2:((r:Int)).tdiv 1073741824=((r/BB:Nat):Int):=by first|exact D|(rw[Int.neg_tdiv,D])
   exact wP
  ·obtain rfl:r=0:=oE;have hk:k<=3:=by have:=P.a;rw[f.a,cH,f.u]at this;omega
   have y:bC x=out:=by have:=f.a;rwa [bU,ef]at this
   have Q:Good out:=by rw[<-y];exact aO x
   obtain⟨O,s,rfl,X⟩:=Sl.BO o.out (fU Q) oE (M:=w::M) (by intro j z;exact Y3);rw[<-y]at X;have W:ZV wr (w.heap.size::M) (.agg #[.bool false,.slice O k s]) ((x:Int)):=⟨O,k,s,by rw[show aG ((x:Int))=false from P.w],by rw[show bG ((x:Int))=bC x from by unfold bG;rw[P.c]];exact X⟩;obtain⟨wF,U,Y,h,F,L⟩:=fin2 (M:=M) q C W hb pc;have HF:=oK U Y h F L;clear U Y h F L W X o f y Q;gi_wp2
   first
    |rw[HF.a]
    |rw[show decide (0<x)=true from cw oE,HF.a]
   exact⟨rfl,.agg #[.bool false,.slice O k s],by simp[results,go_sem,HF.b,HF.c],_,rfl,HF.d,HF.x⟩
theorem TG(hM:b_ M w)(hn:i64 n)(hs:n<0):
 Calls prog 50 #[.int .i64 n] w fun e w'=>∃u,e=.returned u/\ZV w' M u n/\Below w w w':=by
 refine wid ?_;have A:(bC n.natAbs).length<=3:=BL (by unfold i64 at hn;omega);obtain⟨x,hx⟩:=aC n.natAbs;have ah:x<=9223372036854775808:=by unfold i64 at hn;omega
 obtain rfl:n= -(x:Int):=oE;have aa:decide ((-(x:Int):Int)<0)=true:=by simp;try omega
 rw[hx]at A;have P:=h_ A hM hx aa;unfold i64 at hn;clear A hM hx;refine ent func50 rfl ntmps50 ?_;gi_wp2;gi_loopw[3,4] (fun v u wr=>∃(k r:Nat) (out:List Nat),r<=x/\u=.int .i64 (-(r:Int))/\Hid (bC x=out++bC r/\out.length=k)/\Hid (wr.ownsRow (w.heap.size+1) 3 1 v k ((ints out).map (Value.int .i64)))/\Below w w wr/\w.heap.size+1<=wr.heap.size/\wr.cell? ⟨w,0,none⟩=some (.bool false)/\wr.cell? ⟨w,1,none⟩=some (.slice none 0 0)/\wr.frozen? ⟨w,0,none⟩=false/\wr.frozen? ⟨w,1,none⟩=false) (fun _ u _=>(intOf u).natAbs);case atStart=>exact Bg
 case round=>
  obtain⟨k,r,out,hr,rfl,f,o,hb,ad,q,C,f0,f1⟩:=hrel;by_cases ac:0<r
  ·have hk:k<=3:=by have:=P.a;rw[f.a,cH,f.u]at this;omega
   obtain⟨v',W',h,V,g,gg,cc,rfl⟩:=yC o.out ad oE ((r%BB:Nat):Int);rw[show ints out++ [((r%BB:Nat):Int)]=ints (out++ [r%BB]) by simp[ints]]at V;have T:bC x=(out++ [r%BB])++bC (r/BB)/\(out++ [r%BB]).length=k+1:=by refine⟨?_,by simp[f.u]⟩;rw[f.a,iP oE];simp
   have N:r/BB<r:=Nat.div_lt_self ac rE;have l:=Hd h;have m:=h_ V (hb.trans (g.mono oE)) T N;have ag:=g.size;have ab:r%BB<=1073741823:=g_ (jN _ eX);have yK:r/BB<=r:=nQ _ _;have B:(r:Int).tmod 1073741824=((r%BB:Nat):Int):=by rw[jz oE];rfl
   have D:(r:Int).tdiv 1073741824=((r/BB:Nat):Int):=by rw[eB oE];rfl
   have e1:(-(r:Int)).tmod 1073741824=(-((r%BB:Nat):Int)):=by first|exact B|(rw[Int.neg_tmod,B])
   have e2:(-(r:Int)).tdiv 1073741824= -((r/BB:Nat):Int):=by first|exact D|(rw[Int.neg_tdiv,D])
   exact wP
  ·obtain rfl:r=0:=oE;have hk:k<=3:=by have:=P.a;rw[f.a,cH,f.u]at this;omega
   have y:bC x=out:=by have:=f.a;rwa [bU,ef]at this
   have Q:Good out:=by rw[<-y];exact aO x
   obtain⟨O,s,rfl,X⟩:=Sl.BO o.out (fU Q) oE (M:=w::M) (by intro j z;exact Y3);rw[<-y]at X;have W:ZV wr (w.heap.size::M) (.agg #[.bool true,.slice O k s]) (-(x:Int)):=⟨O,k,s,by rw[show aG (-(x:Int))=true from P.w],by rw[show bG (-(x:Int))=bC x from by unfold bG;rw[P.c]];exact X⟩;obtain⟨wF,U,Y,h,F,L⟩:=fin2 (M:=M) q C W hb pc;have HF:=oK U Y h F L;clear U Y h F L W X o f y Q;gi_wp2
   first
    |rw[HF.a]
    |rw[show decide (0<x)=true from cw oE,HF.a]
   exact⟨rfl,.agg #[.bool true,.slice O k s],by simp[results,go_sem,HF.b,HF.c],_,rfl,HF.d,HF.x⟩
theorem zC(hM:b_ M w)(hn:i64 n):
 Calls prog 50 #[.int .i64 n] w fun e w'=>∃u,e=.returned u/\ZV w' M u n/\Below w w w':=by
 by_cases h:n<0;·exact TG hM hn h
 ·exact TF hM hn oE
theorem zD(q:Bool)(A:Option Addr)(n c:Nat)(w:World)(hs:n<=140737488355328):
 CB 113 #[.agg #[.bool q,.slice A n c]] (.bool (decide (n=0))) w:=by
 refine wid ?_;by_cases a:n=0;all_goals(
 refine ent func113 rfl ntmps113 ?_;gi_wp2;go_ret;exact⟨by first|rfl|simp[a]|(simp;omega),by exact bel⟩)
theorem MI{A B:Option Addr}{n c m d:Nat}{p q:Bool}{l1 l2:List Int}(hM:b_ M w)(hx:Sl Int w M A n c l1)(hy:Sl Int w M B m d l2):
 CB 63 #[.agg #[.bool p,.slice A n c,.bool q,.slice B m d]] (.int .i64 (qM (dF ((p,l1),(q,l2))))) w:=by
 refine wid ?_;obtain⟨W1,aA⟩:=aC (w.alloc (.cells #[.bool p,.slice A n c,.bool q,.slice B m d] 48));have F1:Bx w W1 p q (.slice A n c) (.slice B m d):=by rw[<-aA];exact Bx.start w _ _ _ _
 have F:=Hd F1;have e0:=F1.a0;have e1:=F1.a1;have e2:=F1.a2;have e3:=F1.a3;have aq:l2.length=m:=hy.len;have X:=fB hx hy hM;have U:=Hd hy.small;clear hx hy hM F1;by_cases z:gZ (p,l1)=true
 ·have s:=Hd (show rJ (gZ (p,l1))=0 by rw[z];rfl);by_cases C:gZ (q,l2)=true
  ·have EX:=Hd (show rJ (gZ (q,l2))=0 by rw[C];rfl);obtain⟨o,I,ac⟩:=(nU _).1 z;obtain⟨W,J,ad⟩:=(nU _).1 C;have ep:aG o=p:=(gM Prod.fst I).symm;have r:aG W=q:=(gM Prod.fst J).symm;have al:ints (bG o)=l1:=(gM Prod.snd I).symm;have ab:ints (bG W)=l2:=(gM Prod.snd J).symm;have am:DT (p,l1)=o:=by rw[I,nG]
   have an:DT (q,l2)=W:=by rw[J,nG]
   have ak:(bG W).length=m:=by rw[<-aq,<-ab,jm]
   have O:m=0↔W=0:=by
    rw[<-ak];constructor;·intro e;have:=jO.1 (c_.1 e);omega
    rintro rfl;rw[show bG 0= []from bU];rfl
   have ap:=tK ac ad;have XO:=fB ac ad ap;have G:=h_ ep r al ab;have WL:dF ((p,l1),(q,l2))=(decide (0<W)&&decide (Int.gcd o W=1)):=by simp[dF,z,C,am,an]
   have L:=Hd WL;clear WL ac ad ap I J al ab am an ep aq;by_cases t:m=0;·have aw:=O.1 t;have l:=Hd (show qM (dF ((p,l1),(q,l2)))=100 by rw[L.out,aw];rfl);have H:=Hd (show decide (m=0)=true from cw t);clear t O ak aw r;exact zn
   have H:=Hd (show decide (m=0)=false from cE t);have aa:W≠0:=fun e=>t (O.2 e);clear t O ak;cases q;case true=>
    have ar:¬0<W:=by unfold aG at r;have:=cW r;omega
    have l:=Hd (show qM (dF ((p,l1),(true,l2)))=100 by rw[L.out,cE ar];rfl);clear r ar aa;exact zn
   case false=>
    have au:0<W:=by unfold aG at r;have:=fW r;omega
    obtain⟨cc,aj⟩:=aC (tV (Int.gcd o W:Int) 1);have Z8:0<Int.gcd o W:=Int.gcd_pos_iff.2 (.inr aa);have ai:cc=0↔Int.gcd o W=1:=by
     rw[<-aj];unfold tV
     repeat' split
     all_goals omega
    have az:=Hd aj;have HP:=Hd au;clear r au aa aj Z8;by_cases ao:cc=0;all_goals(
    first
     |have l:=Hd (show qM (dF ((p,l1),(false,l2)))=0 by rw[L.out,cw HP.out,cw (ai.1 ao)];rfl)
     |have l:=Hd (show qM (dF ((p,l1),(false,l2)))=100 by rw[L.out,cw HP.out,cE (fun e=>ao (ai.2 e))];rfl)
    clear ai;refine ent func63 rfl ntmps63 ?_
    gi_wp2_with (first
     |(refine Cl 114 (W_ (M:=M) (a:=o) (b:=W) (X.v.le k.a.bl.size) ⟨A,n,c,by rw[G.a],by rw[G.c];exact X.a.go k.a.bl⟩ ⟨B,m,d,by rw[G.b],by rw[G.w];exact X.b.go k.a.bl⟩ XO.a XO.b) ?_;rintro e D ⟨u5,rfl,r_,ae⟩;obtain⟨q5,A5,n5,c5,rfl,av⟩:=ZC.of r_;obtain⟨V,Z⟩:=aC (D.alloc (.cells #[.bool q5,.slice A5 n5 c5] 46));have af:Below D D V:=by rw[<-Z];exact bel
       have l0:V.cell? ⟨D,0,none⟩=some (.bool q5):=by rw[<-Z];simp[go_sem]
       have l1:V.cell? ⟨D,1,none⟩=some (.slice A5 n5 c5):=by rw[<-Z];simp[go_sem]
       have v0:=ah l0;have v1:=ah l1;have E:=fB ((av.go af).drew) (((k.a.bl.trans (ae.mono k.a.bl.size)).trans (af.mono (cD k.a.bl.size ae.size))).drew) trivial;clear r_ av ae af)
     |(refine⟨bq,?_⟩;gi_at_call 113;have g:=Y.out;clear g;refine Cn (zD _ B m d _ U.out) ?_;rintro e w4 ⟨rfl,hb4⟩;rw[H.out];have F4:=Y.a.go hb4;have o0:=F4.a0;have o1:=F4.a1;have o2:=F4.a2;have o3:=F4.a3;have k:=Hd2 F4 hb4;clear F4 hb4)
     |(refine⟨bq,?_⟩;gi_at_call 112;have g:=h.out;clear g;refine Cn (fZ B m d _ l2 _ ((X.b.go F.out.bl).go h.u)) ?_;rintro e w3 ⟨rfl,i⟩;rw[EX.out];have F3:=h.a.go i;have y0:=F3.a0;have y1:=F3.a1;have y2:=F3.a2;have y3:=F3.a3;have Y:=Hd2 F3 i;clear i F3)
     |(refine Cl 112 (fZ A n c p l1 _ (X.a.go F.out.bl)) ?_;rintro e T ⟨rfl,f⟩;rw[s.out];have j:=F.out.go f;have P:=j.a0;have Q:=j.a1;have R:=j.a2;have S:=j.a3;have h:=Hd2 j f;clear j f)
     |fail)
    refine aP [] 8 oF oF ?_;refine ay 0 ?_;refine eU 1 fun K y=>?_;gi_wp2;refine Cm (zC (M:=M) (n:=1) (X.v.le E.b.size) oV) ?_;rintro e w7 ⟨u7,rfl,ax,N⟩;have x:=fB ax (E.a.go N) (E.b.trans (N.mono E.b.size));clear ax;refine y _ _ ⟨?_,?_⟩;clear y K;·exact a_ N []
    refine lit ?_;clear N;refine eU 2 fun K y=>?_;gi_wp2;refine Cm (WU (M:=M) (a:=(Int.gcd o W:Int)) (b:=1) (X.v.le x.v.size) x.b.zv x.a XO.v (En oV)) ?_;rintro e w8 ⟨rfl,ag⟩;rw[az.out];have G8:=Hd (x.v.trans (ag.mono x.v.size));refine y _ _ ⟨?_,?_⟩;clear y K;·exact a_ ag []
    refine lit ?_;clear ag;refine ay 3 ?_;refine ay 4 ?_;refine ay 5 ?_;refine ay 6 ?_;refine ay 7 ?_;refine iq 0 ?_;refine dC _ ?_;simp only[cu];gi_wp2;go_ret;exact⟨by rw[l.out];rfl,G8.out⟩)
  have EX:=Hd (show rJ (gZ (q,l2))=90 by simp[C,rJ]);have l:=Hd (show qM (dF ((p,l1),(q,l2)))=100 by simp[dF,C,qM]);refine ent func63 rfl ntmps63 ?_
  gi_wp2_with (first
   |(refine⟨bq,?_⟩;gi_at_call 112;have g:=h.out;clear g;refine Cn (fZ B m d _ l2 _ ((X.b.go F.out.bl).go h.u)) ?_;rintro e w3 ⟨rfl,i⟩;rw[EX.out];have F3:=h.a.go i;have y0:=F3.a0;have y1:=F3.a1;have y2:=F3.a2;have y3:=F3.a3;have Y:=Hd2 F3 i;clear i F3)
   |(refine Cl 112 (fZ A n c p l1 _ (X.a.go F.out.bl)) ?_;rintro e T ⟨rfl,f⟩;rw[s.out];have j:=F.out.go f;have P:=j.a0;have Q:=j.a1;have R:=j.a2;have S:=j.a3;have h:=Hd2 j f;clear j f)
   |(refine⟨bq,?_⟩))
  go_ret;exact⟨by rw[l.out];rfl,Y.a.bl⟩
 ·have s:=Hd (show rJ (gZ (p,l1))=90 by simp[z,rJ]);have l:=Hd (show qM (dF ((p,l1),(q,l2)))=100 by simp[dF,z,qM]);refine ent func63 rfl ntmps63 ?_
  gi_wp2_with (first
   |(refine Cl 112 (fZ A n c p l1 _ (X.a.go F.out.bl)) ?_;rintro e T ⟨rfl,f⟩;rw[s.out];have j:=F.out.go f;have P:=j.a0;have Q:=j.a1;have R:=j.a2;have S:=j.a3;have h:=Hd2 j f;clear j f)
   |(refine⟨bq,?_⟩))
  go_ret;exact⟨by rw[l.out];rfl,h.a.bl⟩
end
