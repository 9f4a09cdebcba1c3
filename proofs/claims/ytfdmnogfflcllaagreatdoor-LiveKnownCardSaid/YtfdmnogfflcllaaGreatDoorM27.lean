/- Lemmas. -/
import Derived.Test.YtfdmnogfflcllaaGreatDoorM26
import Derived.Test.YtfdmnogfflcllaaGreatDoorM24
set_option linter.unusedVariables false
set_option linter.unusedSimpArgs false
set_option maxRecDepth 100000
set_option maxHeartbeats 20000000
namespace Go.Proofs.YtfdmnogfflcllaaGreatDoor
open Go.Proofs.Tryz
theorem Bf{p:Prop}(h:p:=by
 skip
 clear hs S;refine ent func153 rfl ntmps153 ?_;gi_wp2;go_ret;exact⟨by rw[o.out];first|rfl|simp,HF.out.bl⟩):p:=h
theorem Bo{p:Prop}(h:p:=by have HN:=Hd a;clear a;gi_wp2;refine aP [] 9 oF oF ?_;refine ay 0 ?_;refine ay 1 ?_;refine ay 2 ?_;refine ay 3 ?_;refine ay 4 ?_;refine ay 5 ?_;refine ay 6 ?_;refine ay 7 ?_;refine ay 8 ?_;refine iq 0 ?_;refine dC _ ?_;simp only[cu];gi_wp2;exact⟨⟨k+1,oE,by go_num,hb.drew⟩,by simp[intOf];omega⟩):p:=h
theorem JL{p:Prop}(h:p:=by
 rcases d with d|d;·rw[d]at e;have D:=(h.own.lt e).1;omega
 rw[d]at e;have:=eW e;have:=h.kp.size;omega):p:=h
variable {k:bK}{s:ByteArray}{s1 s2 s3 s4 s5 s6 s7:dK}{cn rn:List ByteArray}{p:Int}{q n c:Nat}{A B:Option Addr}{M':List Nat}
section
open Go.RowKit Go.Shelf
attribute [local go_sem] cK
theorem af5(cn rn tn:List ByteArray)(k:bK):(iW cn rn tn k).1=k.1/\(iW cn rn tn k).2.1=k.2.1:=by
 unfold iW;split;·exact⟨rfl,rfl⟩
 split;·exact⟨rfl,rfl⟩
 split<;>exact⟨rfl,rfl⟩
abbrev Fa(k:bK):Value:=.agg #[.int .i64 k.1,.string k.2.1,.int .i64 k.2.2]
theorem af6{r:aS}{M:List Nat}{t0 t1 t2 t3:dK}{w:World}(hnm:JO w M r t0 t1 t2 t3)(h:k.1=1):
 CB 147 #[.agg (Af t0 t1 t2 t3).toArray,Fa k] (.tuple #[Fa (iW (dP r) (dQ r) (jF r) k),.bool (I_ (dP r) (dQ r) (jF r) k)]) w:=by
 refine wid ?_;have HX:=Hd (show iW (dP r) (dQ r) (jF r) k=(k.1,k.2.1,dO (dP r) k.2.1)/\I_ (dP r) (dQ r) (jF r) k=decide (0<=dO (dP r) k.2.1) by unfold iW I_;rw[if_pos h,if_pos h];exact⟨rfl,rfl⟩);obtain⟨kd,nm,n⟩:=k;simp only at h;subst h;obtain⟨n',t⟩:=aC (dO (dP r) nm);simp only at HX;rw[t]at HX;obtain⟨W1,X,F1⟩:=dR ((((Fr.nil w).a w (Af t0 t1 t2 t3) 196).a (w+1) [.int .i64 1,.string nm,.int .i64 n] 113).a (w+1+1) [.int .i64 0,.string ⟨#[]⟩,.int .i64 0] 113);have H:=Hd (ru nm (hnm.c.go F1.bl));have HN:=Hd t;obtain⟨D,J⟩:=aC (W1.setCell ⟨w+1,2,none⟩ (.int .i64 n'));have m:=F1.mid (j:=2) (B:= [.int .i64 1,.string nm,.int .i64 n]) rfl (.int .i64 n');rw[J]at m;have d:=Hd (show Fr w D [(w,Af t0 t1 t2 t3),(w+1, [.int .i64 1,.string nm,.int .i64 n']),(w+1+1, [.int .i64 0,.string ⟨#[]⟩,.int .i64 0])]from m);refine op1 F1 ?_;intros;clear F1 m hnm t;rw[HX.a,HX.u];refine ent func147 rfl ntmps147 ?_
 gi_wp2_with (first
  |(refine Cl 146 H.out ?_;rintro e w' ⟨⟨i,rfl,F⟩,rfl⟩;obtain rfl:n'=i:=by rw[<-HN.out];exact(lV F).symm
    have E:=d.out;refine op1 E ?_;intros;clear E F)
  |fail)
 have Y:=aF (Mr:= [w.heap.size+1+1]) (b:=w+1) oO (d.out.aQ 1 0);have Z:=aF (Mr:= [w.heap.size+1+1]) (b:=w+1) oO (d.out.aQ 1 1);have q2:=aF (Mr:= [w.heap.size+1+1]) (b:=w+1) oO (d.out.aQ 1 2);obtain⟨z,x⟩:=aC D.drew;have FD:=x▸d.out.drew;have N:=Hd x;obtain⟨o,y⟩:=aC (fM z (w.heap.size+1+1) 0 [.int .i64 1,.string nm,.int .i64 n']);have g:=iO (w:=z) (b:=w+1+1) (vs:= [.int .i64 0,.string ⟨#[]⟩,.int .i64 0]) (us:= [.int .i64 1,.string nm,.int .i64 n']) (fun i u L=>FD.at_ (w.heap.size+1+1) _ oO i u L) rfl y;have f:Hid (mP o (w.heap.size+1+1) [.int .i64 1,.string nm,.int .i64 n']/\Below w w o):=⟨g.1,FD.bl.trans (g.2.bl.mono oE)⟩;have S:((z.setCell ⟨w+1+1,0,none⟩ (.int .i64 1)).setCell ⟨w+1+1,1,none⟩ (.string nm)).setCell ⟨w+1+1,2,none⟩ (.int .i64 n')=o:=y;have G:=g.2.k;clear x y g;refine aP [w.heap.size+1+1] 5 oF oF ?_;refine ay 0 ?_;refine ay 1 ?_;refine ay 2 ?_;refine ay 3 ?_;rw[N.out];refine op1 FD ?_;intros;clear FD;refine eU 4 fun K I=>?_;gi_wp2;refine⟨G,?_⟩;clear G;refine lit ?_;refine iq 1 ?_;refine jW fun K I T U=>?_;gi_wp2;refine dC _ ?_;simp only[cu];gi_wp2;have O:=(f.a 0 _ rfl).1;have P:=(f.a 1 _ rfl).1;have Q:=(f.a 2 _ rfl).1;exact⟨rfl,.tuple #[.agg #[.int .i64 1,.string nm,.int .i64 n'],.bool (decide (0<=n'))],by simp[results,go_sem,O,P,Q],rfl,f.u⟩
theorem af7{r:aS}{M:List Nat}{t0 t1 t2 t3:dK}{w:World}(hnm:JO w M r t0 t1 t2 t3)(h:k.1=2):
 CB 147 #[.agg (Af t0 t1 t2 t3).toArray,Fa k] (.tuple #[Fa (iW (dP r) (dQ r) (jF r) k),.bool (I_ (dP r) (dQ r) (jF r) k)]) w:=by
 refine wid ?_;have HX:=Hd (show iW (dP r) (dQ r) (jF r) k=(k.1,k.2.1,dO (dQ r) k.2.1)/\I_ (dP r) (dQ r) (jF r) k=decide (0<=dO (dQ r) k.2.1) by unfold iW I_;rw[if_neg (show ¬k.1=1 by omega),if_pos h,if_neg (show ¬k.1=1 by omega),if_pos h];exact⟨rfl,rfl⟩);obtain⟨kd,nm,n⟩:=k;simp only at h;subst h;obtain⟨n',t⟩:=aC (dO (dQ r) nm);simp only at HX;rw[t]at HX;obtain⟨W1,X,F1⟩:=dR ((((Fr.nil w).a w (Af t0 t1 t2 t3) 196).a (w+1) [.int .i64 2,.string nm,.int .i64 n] 113).a (w+1+1) [.int .i64 0,.string ⟨#[]⟩,.int .i64 0] 113);have H:=Hd (ru nm (hnm.r.go F1.bl));have HN:=Hd t;obtain⟨D,J⟩:=aC (W1.setCell ⟨w+1,2,none⟩ (.int .i64 n'));have m:=F1.mid (j:=2) (B:= [.int .i64 2,.string nm,.int .i64 n]) rfl (.int .i64 n');rw[J]at m;have d:=Hd (show Fr w D [(w,Af t0 t1 t2 t3),(w+1, [.int .i64 2,.string nm,.int .i64 n']),(w+1+1, [.int .i64 0,.string ⟨#[]⟩,.int .i64 0])]from m);refine op1 F1 ?_;intros;clear F1 m hnm t;rw[HX.a,HX.u];refine ent func147 rfl ntmps147 ?_
 gi_wp2_with (first
  |(refine Cl 146 H.out ?_;rintro e w' ⟨⟨i,rfl,F⟩,rfl⟩;obtain rfl:n'=i:=by rw[<-HN.out];exact(lV F).symm
    have E:=d.out;refine op1 E ?_;intros;clear E F)
  |fail)
 have Y:=aF (Mr:= [w.heap.size+1+1]) (b:=w+1) oO (d.out.aQ 1 0);have Z:=aF (Mr:= [w.heap.size+1+1]) (b:=w+1) oO (d.out.aQ 1 1);have q2:=aF (Mr:= [w.heap.size+1+1]) (b:=w+1) oO (d.out.aQ 1 2);obtain⟨z,x⟩:=aC D.drew;have FD:=x▸d.out.drew;have N:=Hd x;obtain⟨o,y⟩:=aC (fM z (w.heap.size+1+1) 0 [.int .i64 2,.string nm,.int .i64 n']);have g:=iO (w:=z) (b:=w+1+1) (vs:= [.int .i64 0,.string ⟨#[]⟩,.int .i64 0]) (us:= [.int .i64 2,.string nm,.int .i64 n']) (fun i u L=>FD.at_ (w.heap.size+1+1) _ oO i u L) rfl y;have f:Hid (mP o (w.heap.size+1+1) [.int .i64 2,.string nm,.int .i64 n']/\Below w w o):=⟨g.1,FD.bl.trans (g.2.bl.mono oE)⟩;have S:((z.setCell ⟨w+1+1,0,none⟩ (.int .i64 2)).setCell ⟨w+1+1,1,none⟩ (.string nm)).setCell ⟨w+1+1,2,none⟩ (.int .i64 n')=o:=y;have G:=g.2.k;clear x y g;refine aP [w.heap.size+1+1] 5 oF oF ?_;refine ay 0 ?_;refine ay 1 ?_;refine ay 2 ?_;refine ay 3 ?_;rw[N.out];refine op1 FD ?_;intros;clear FD;refine eU 4 fun K I=>?_;gi_wp2;refine⟨G,?_⟩;clear G;refine lit ?_;refine iq 1 ?_;refine jW fun K I T U=>?_;gi_wp2;refine dC _ ?_;simp only[cu];gi_wp2;have O:=(f.a 0 _ rfl).1;have P:=(f.a 1 _ rfl).1;have Q:=(f.a 2 _ rfl).1;exact⟨rfl,.tuple #[.agg #[.int .i64 2,.string nm,.int .i64 n'],.bool (decide (0<=n'))],by simp[results,go_sem,O,P,Q],rfl,f.u⟩
theorem af8{r:aS}{M:List Nat}{t0 t1 t2 t3:dK}{w:World}(hnm:JO w M r t0 t1 t2 t3)(h:k.1=5):
 CB 147 #[.agg (Af t0 t1 t2 t3).toArray,Fa k] (.tuple #[Fa (iW (dP r) (dQ r) (jF r) k),.bool (I_ (dP r) (dQ r) (jF r) k)]) w:=by
 refine wid ?_;have HX:=Hd (show iW (dP r) (dQ r) (jF r) k=(k.1,k.2.1,dO (jF r) k.2.1)/\I_ (dP r) (dQ r) (jF r) k=decide (0<=dO (jF r) k.2.1) by unfold iW I_;rw[if_neg (show ¬k.1=1 by omega),if_neg (show ¬k.1=2 by omega),if_pos h,if_neg (show ¬k.1=1 by omega),if_neg (show ¬k.1=2 by omega),if_pos h];exact⟨rfl,rfl⟩);obtain⟨kd,nm,n⟩:=k;simp only at h;subst h;obtain⟨n',x⟩:=aC (dO (jF r) nm);simp only at HX;rw[x]at HX;obtain⟨W1,Y,F1⟩:=dR ((((Fr.nil w).a w (Af t0 t1 t2 t3) 196).a (w+1) [.int .i64 5,.string nm,.int .i64 n] 113).a (w+1+1) [.int .i64 0,.string ⟨#[]⟩,.int .i64 0] 113);have I:=Hd (ru nm (hnm.t.go F1.bl));have HN:=Hd x;obtain⟨E,L⟩:=aC (W1.setCell ⟨w+1,2,none⟩ (.int .i64 n'));have m:=F1.mid (j:=2) (B:= [.int .i64 5,.string nm,.int .i64 n]) rfl (.int .i64 n');rw[L]at m;have d:=Hd (show Fr w E [(w,Af t0 t1 t2 t3),(w+1, [.int .i64 5,.string nm,.int .i64 n']),(w+1+1, [.int .i64 0,.string ⟨#[]⟩,.int .i64 0])]from m);refine op1 F1 ?_;intros;clear F1 m hnm x;rw[HX.a,HX.u];refine ent func147 rfl ntmps147 ?_
 gi_wp2_with (first
  |(refine Cl 146 I.out ?_;rintro e w' ⟨⟨i,rfl,G⟩,rfl⟩;obtain rfl:n'=i:=by rw[<-HN.out];exact(lV G).symm
    have F:=d.out;refine op1 F ?_;intros;clear F G)
  |fail)
 have Z:=aF (Mr:= [w.heap.size+1+1]) (b:=w+1) oO (d.out.aQ 1 0);have q1:=aF (Mr:= [w.heap.size+1+1]) (b:=w+1) oO (d.out.aQ 1 1);have q2:=aF (Mr:= [w.heap.size+1+1]) (b:=w+1) oO (d.out.aQ 1 2);obtain⟨D,y⟩:=aC E.drew;have FD:=y▸d.out.drew;have O:=Hd y;obtain⟨o,z⟩:=aC (fM D (w.heap.size+1+1) 0 [.int .i64 5,.string nm,.int .i64 n']);have g:=iO (w:=D) (b:=w+1+1) (vs:= [.int .i64 0,.string ⟨#[]⟩,.int .i64 0]) (us:= [.int .i64 5,.string nm,.int .i64 n']) (fun i u N=>FD.at_ (w.heap.size+1+1) _ oO i u N) rfl z;have f:Hid (mP o (w.heap.size+1+1) [.int .i64 5,.string nm,.int .i64 n']/\Below w w o):=⟨g.1,FD.bl.trans (g.2.bl.mono oE)⟩;have T:((D.setCell ⟨w+1+1,0,none⟩ (.int .i64 5)).setCell ⟨w+1+1,1,none⟩ (.string nm)).setCell ⟨w+1+1,2,none⟩ (.int .i64 n')=o:=z;have H:=g.2.k;clear y z g;refine aP [w.heap.size+1+1] 5 oF oF ?_;refine ay 0 ?_;refine ay 1 ?_;refine ay 2 ?_;refine ay 3 ?_;rw[O.out];refine op1 FD ?_;intros;clear FD;refine eU 4 fun K J=>?_;gi_wp2;refine⟨H,?_⟩;clear H;refine lit ?_;refine iq 1 ?_;refine jW fun K J U X=>?_;gi_wp2;refine dC _ ?_;simp only[cu];gi_wp2;have P:=(f.a 0 _ rfl).1;have Q:=(f.a 1 _ rfl).1;have S:=(f.a 2 _ rfl).1;exact⟨rfl,.tuple #[.agg #[.int .i64 5,.string nm,.int .i64 n'],.bool (decide (0<=n'))],by simp[results,go_sem,P,Q,S],rfl,f.u⟩
theorem af9{r:aS}{t0 t1 t2 t3:dK}{w:World}(h1:¬k.1=1)(h2:¬k.1=2)(h5:¬k.1=5):
 CB 147 #[.agg (Af t0 t1 t2 t3).toArray,Fa k] (.tuple #[Fa (iW (dP r) (dQ r) (jF r) k),.bool (I_ (dP r) (dQ r) (jF r) k)]) w:=by
 refine wid ?_;have G:iW (dP r) (dQ r) (jF r) k=k:=by unfold iW;rw[if_neg h1,if_neg h2,if_neg h5]
 have N:I_ (dP r) (dQ r) (jF r) k=true:=by unfold I_;rw[if_neg h1,if_neg h2,if_neg h5]
 rw[G,N];obtain⟨kd,nm,n⟩:=k;have t:(kd==1)=false:=cU.2 h1;have x:(kd==2)=false:=cU.2 h2;have z:(kd==5)=false:=cU.2 h5;obtain⟨W1,y,F1⟩:=dR ((((Fr.nil w).a w (Af t0 t1 t2 t3) 196).a (w+1) [.int .i64 kd,.string nm,.int .i64 n] 113).a (w+1+1) [.int .i64 0,.string ⟨#[]⟩,.int .i64 0] 113);have HF:=Hd F1;refine op1 F1 ?_;intros;clear F1 G N h1 h2 h5;refine ent func147 rfl ntmps147 ?_;gi_wp2;refine(fun(h:∀U,fM W1 (w.heap.size+1+1) 0 [.int .i64 kd,.string nm,.int .i64 n]=U->bodyPost _ _ _ _ _ U)=>h _ rfl) ?_;intro U f;have d:=iO (w:=W1) (b:=w+1+1) (vs:= [.int .i64 0,.string ⟨#[]⟩,.int .i64 0]) (us:= [.int .i64 kd,.string nm,.int .i64 n]) (fun i u g=>HF.out.at_ (w.heap.size+1+1) _ oO i u g) rfl f;have j:=(d.1 0 _ rfl).1;have m:=(d.1 1 _ rfl).1;have o:=(d.1 2 _ rfl).1;exact⟨rfl,.tuple #[.agg #[.int .i64 kd,.string nm,.int .i64 n],.bool true],by simp[results,go_sem,j,m,o],rfl,HF.out.bl.trans (d.2.bl.mono oE)⟩
theorem U4{r:aS}{M:List Nat}{t0 t1 t2 t3:dK}{w:World}(hnm:JO w M r t0 t1 t2 t3):
 CB 147 #[.agg (Af t0 t1 t2 t3).toArray,Fa k] (.tuple #[Fa (iW (dP r) (dQ r) (jF r) k),.bool (I_ (dP r) (dQ r) (jF r) k)]) w:=by
 by_cases b:k.1=1;·exact af6 hnm b
 ·by_cases d:k.1=2;·exact af7 hnm d
  by_cases K:k.1=5;·exact af8 hnm K
  exact af9 b d K
end
section
open Go.RowKit Go.Shelf
theorem sW(b:Int)(w:World):Calls prog 230 #[.int .u8 b] w fun e w'=>e=.returned (.bool (jM b))/\w=w':=by
 refine wid ?_;by_cases a:97<=b<;>by_cases d:b<=122<;>by_cases f:65<=b<;>by_cases D:b<=90
 all_goals
  refine ent func230 rfl ntmps230 ?_;gi_wp2;go_ret;exact⟨by simp[jM,a,d,f,D],rfl⟩
theorem Kw(b:Int)(w:World):Calls prog 263 #[.int .u8 b] w fun e w'=>e=.returned (.bool (vH b))/\w=w':=by
 refine wid ?_;by_cases a:48<=b<;>by_cases d:b<=57
 all_goals
  refine ent func263 rfl ntmps263 ?_;gi_wp2;go_ret;exact⟨by simp[vH,a,d],rfl⟩
theorem GI(b:Int)(w:World):Calls prog 231 #[.int .u8 b] w fun e w'=>e=.returned (.bool (mY b))/\w=w':=by
 refine wid ?_;obtain⟨f,a⟩:=aC (jM b);obtain⟨g,d⟩:=aC (vH b);obtain⟨h,i⟩:=aC (b==95);have o:=Hd (show mY b=(f||g||h) by rw[mY,a,d,<-i];by_cases e:b=95<;>simp[e]);have j:=Hd a;have m:=Hd d;clear a d;cases h<;>cases f<;>cases g
 all_goals
  refine ent func231 rfl ntmps231 ?_
  gi_wp2_with (first
   |(refine Cl 263 (Kw _ _) ?_;rintro e w' ⟨rfl,rfl⟩;rw[m.out])
   |(refine Cl 230 (sW _ _) ?_;rintro e w' ⟨rfl,rfl⟩;rw[j.out])
   |(refine⟨bq,?_⟩))
  go_ret;exact⟨by rw[o.out];first|rfl|simp[i],rfl⟩
theorem Rn(s:ByteArray)(w:World):Calls prog 189 #[.string s] w fun e w'=>e=.returned (.bool (nameB s))/\w=w':=by
 refine wid ?_;by_cases d:s.size=0;·have m:=Hd (show nameB s=false by unfold nameB;simp[d]);refine ent func189 rfl ntmps189 ?_;exact BN
 have D:0<s.size:=oE;have K:¬(s.size:Int)<1:=oE;by_cases h:s.size<=32
 ·have y:¬(s.size:Int)>32:=oE;have E:=wY D;obtain⟨b0,f⟩:=aC (mX s 0);rw[f]at E;obtain⟨x,a⟩:=aC (jM b0);have II:=Hd a;cases x
  ·have m:=Hd (show nameB s=false by unfold nameB;rw[f,a];simp);clear a d;refine ent func189 rfl ntmps189 ?_
   gi_wp2_with (first
    |(refine Cl 230 (sW _ _) ?_;rintro e w' ⟨rfl,rfl⟩;rw[II.out])
    |fail)
   go_ret;exact⟨by rw[m.out];first|rfl|simp,rfl⟩
  have HL:=Hd (show nameB s=(List.range s.size).all fun k=>mY (mX s k) by unfold nameB;rw[f,a];simp[D,h]);clear a d;refine ent func189 rfl ntmps189 ?_
  gi_wp2_with (first
   |(refine Cl 230 (sW _ _) ?_;rintro e w' ⟨rfl,rfl⟩;rw[II.out])
   |fail)
  gi_loopw[3] (fun i wr=>∃k:Nat,k<=s.size/\i=.int .i64 k/\w=wr/\Hid (∀j,j<k->mY (mX s j)=true)) (fun i _=>s.size-(intOf i).toNat);case atStart=>exact⟨0,bO _,rfl,rfl,Hd (fun j g=>by omega)⟩
  case round=>
   obtain⟨k,H,rfl,rfl,u⟩:=hrel;by_cases o:k<s.size
   ·have F:=wY o;obtain⟨b,hb⟩:=aC (mX s k);rw[hb]at F;obtain⟨c,I⟩:=aC (mY b);have t:=Hd I;cases c
    ·have m:=Hd (show nameB s=false by
       rw[HL.out];cases z:(List.range s.size).all fun k=>mY (mX s k);·rfl
       ·have:=cQ.1 z k (fy.2 o);rw[hb,I]at this;cases this)
     clear I hb
     gi_wp2_with (first
      |(refine Cl 231 (GI _ _) ?_;rintro e w' ⟨rfl,rfl⟩;rw[t.out])
      |fail)
     go_ret;exact⟨by rw[m.out];first|rfl|simp,rfl⟩
    have G:=Hd (show ∀j,j<k+1->mY (mX s j)=true from fun j g=>by
     by_cases e:j=k;·rw[e,hb];exact I
     exact u.out j oE)
    clear I hb
    gi_wp2_with (first
     |(refine Cl 231 (GI _ _) ?_;rintro e w' ⟨rfl,rfl⟩;rw[t.out])
     |fail)
    exact⟨⟨k+1,oE,by go_num,bq,G⟩,by simp[intOf];omega⟩
   ·have m:=Hd (show nameB s=true by
      rw[HL.out,cQ];intro j g;exact u.out j (by have:=fy.1 g;omega))
    gi_wp2;go_ret;exact⟨by rw[m.out];first|rfl|simp,rfl⟩
 have y:(s.size:Int)>32:=oE;have m:=Hd (show nameB s=false by unfold nameB;simp[h]);clear d;refine ent func189 rfl ntmps189 ?_;exact BN
theorem ae{l:List UInt8}(h:(s.toList==l)=true)(hm:gY.any (fun y=>y.data.toList==l)=true):Ud s gY=true:=by rw[Lib.toList_data,beq_iff_eq]at h;obtain⟨y,g,e⟩:=iz.1 hm;have G:s=y:=nB (mj.1 (by rw[h];exact(eq_of_beq e).symm));rw[G];exact PX g
def U8:List (List UInt8):= [[99,111,109,112,101,116,105,116,105,111,110], [99,114,105,116,101,114,105,111,110], [102,114,111,109], [116,111], [115,116,101,112], [115,117,109], [109,101,97,110], [116,114,105,109], [109,101,100,105,97,110], [114,101,118,101,114,115,101], [98,111,110,117,115], [118,97,108,117,101], [109,111,115,116], [109,97,108,117,115], [116,105,101], [116,111,116,97,108], [115,99,111,114,101], [104,105,103,104,101,115,116], [114,117,108,101], [108,111,116], [114,111,117,110,100], [112,97,110,101,108], [113,117,111,116,97], [111,118,101,114], [117,110,100,101,114], [108,111,116,115], [102,114,101,101], [112,108,97,99,101,115], [112,114,105,122,101,115], [112,111,105,110,116,115], [98,101,115,116], [108,101,97,115,116], [103,114,101,97,116,101,115,116], [105,102], [117,112,116,111], [116,104,101,110], [101,108,115,101], [101,110,100]]
theorem Yb(h:∀l,l∈U8->(s.toList==l)=false):Ud s gY=false:=by refine Uk fun d=>?_;have a:(gY.all fun y=>U8.any fun l=>y.data.toList==l)=true:=oT;obtain⟨l,b,e⟩:=iz.1 (cQ.1 a s d);have:=h l b;rw[Lib.toList_data,e]at this;cases this
theorem U9(s:ByteArray)(w:World):Calls prog 190 #[.string s] w fun e w'=>e=.returned (.bool (Ud s gY))/\w=w':=by
 refine wid ?_;rcases cG (s.toList== [99,111,109,112,101,116,105,116,105,111,110])with a|a;·have m:=Hd (ae (l:= [99,111,109,112,101,116,105,116,105,111,110]) a oT);refine ent func190 rfl ntmps190 ?_;gi_wp2;go_ret;exact⟨by rw[m.out];first|rfl|simp[a],rfl⟩
 rcases cG (s.toList== [99,114,105,116,101,114,105,111,110])with b|b;·have m:=Hd (ae (l:= [99,114,105,116,101,114,105,111,110]) b oT);refine ent func190 rfl ntmps190 ?_;gi_wp2;go_ret;exact⟨by rw[m.out];first|rfl|simp[b],rfl⟩
 rcases cG (s.toList== [102,114,111,109])with y|y;·have m:=Hd (ae (l:= [102,114,111,109]) y oT);refine ent func190 rfl ntmps190 ?_;gi_wp2;go_ret;exact⟨by rw[m.out];first|rfl|simp[y],rfl⟩
 rcases cG (s.toList== [116,111])with N|N;·have m:=Hd (ae (l:= [116,111]) N oT);refine ent func190 rfl ntmps190 ?_;gi_wp2;go_ret;exact⟨by rw[m.out];first|rfl|simp[N],rfl⟩
 rcases cG (s.toList== [115,116,101,112])with Z|Z;·have m:=Hd (ae (l:= [115,116,101,112]) Z oT);refine ent func190 rfl ntmps190 ?_;gi_wp2;go_ret;exact⟨by rw[m.out];first|rfl|simp[Z],rfl⟩
 rcases cG (s.toList== [115,117,109])with h5|h5;·have m:=Hd (ae (l:= [115,117,109]) h5 oT);refine ent func190 rfl ntmps190 ?_;gi_wp2;go_ret;exact⟨by rw[m.out];first|rfl|simp[h5],rfl⟩
 rcases cG (s.toList== [109,101,97,110])with h6|h6;·have m:=Hd (ae (l:= [109,101,97,110]) h6 oT);refine ent func190 rfl ntmps190 ?_;gi_wp2;go_ret;exact⟨by rw[m.out];first|rfl|simp[h6],rfl⟩
 rcases cG (s.toList== [116,114,105,109])with h7|h7;·have m:=Hd (ae (l:= [116,114,105,109]) h7 oT);refine ent func190 rfl ntmps190 ?_;gi_wp2;go_ret;exact⟨by rw[m.out];first|rfl|simp[h7],rfl⟩
 rcases cG (s.toList== [109,101,100,105,97,110])with h8|h8;·have m:=Hd (ae (l:= [109,101,100,105,97,110]) h8 oT);refine ent func190 rfl ntmps190 ?_;gi_wp2;go_ret;exact⟨by rw[m.out];first|rfl|simp[h8],rfl⟩
 rcases cG (s.toList== [114,101,118,101,114,115,101])with h9|h9;·have m:=Hd (ae (l:= [114,101,118,101,114,115,101]) h9 oT);refine ent func190 rfl ntmps190 ?_;gi_wp2;go_ret;exact⟨by rw[m.out];first|rfl|simp[h9],rfl⟩
 rcases cG (s.toList== [98,111,110,117,115])with d|d;·have m:=Hd (ae (l:= [98,111,110,117,115]) d oT);refine ent func190 rfl ntmps190 ?_;gi_wp2;go_ret;exact⟨by rw[m.out];first|rfl|simp[d],rfl⟩
 rcases cG (s.toList== [118,97,108,117,101])with f|f;·have m:=Hd (ae (l:= [118,97,108,117,101]) f oT);refine ent func190 rfl ntmps190 ?_;gi_wp2;go_ret;exact⟨by rw[m.out];first|rfl|simp[f],rfl⟩
 rcases cG (s.toList== [109,111,115,116])with g|g;·have m:=Hd (ae (l:= [109,111,115,116]) g oT);refine ent func190 rfl ntmps190 ?_;gi_wp2;go_ret;exact⟨by rw[m.out];first|rfl|simp[g],rfl⟩
 rcases cG (s.toList== [109,97,108,117,115])with h|h;·have m:=Hd (ae (l:= [109,97,108,117,115]) h oT);refine ent func190 rfl ntmps190 ?_;gi_wp2;go_ret;exact⟨by rw[m.out];first|rfl|simp[h],rfl⟩
 rcases cG (s.toList== [116,105,101])with i|i;·have m:=Hd (ae (l:= [116,105,101]) i oT);refine ent func190 rfl ntmps190 ?_;gi_wp2;go_ret;exact⟨by rw[m.out];first|rfl|simp[i],rfl⟩
 rcases cG (s.toList== [116,111,116,97,108])with j|j;·have m:=Hd (ae (l:= [116,111,116,97,108]) j oT);refine ent func190 rfl ntmps190 ?_;gi_wp2;go_ret;exact⟨by rw[m.out];first|rfl|simp[j],rfl⟩
 rcases cG (s.toList== [115,99,111,114,101])with o|o;·have m:=Hd (ae (l:= [115,99,111,114,101]) o oT);refine ent func190 rfl ntmps190 ?_;gi_wp2;go_ret;exact⟨by rw[m.out];first|rfl|simp[o],rfl⟩
 rcases cG (s.toList== [104,105,103,104,101,115,116])with t|t;·have m:=Hd (ae (l:= [104,105,103,104,101,115,116]) t oT);refine ent func190 rfl ntmps190 ?_;gi_wp2;go_ret;exact⟨by rw[m.out];first|rfl|simp[t],rfl⟩
 rcases cG (s.toList== [114,117,108,101])with u|u;·have m:=Hd (ae (l:= [114,117,108,101]) u oT);refine ent func190 rfl ntmps190 ?_;gi_wp2;go_ret;exact⟨by rw[m.out];first|rfl|simp[u],rfl⟩
 rcases cG (s.toList== [108,111,116])with x|x;·have m:=Hd (ae (l:= [108,111,116]) x oT);refine ent func190 rfl ntmps190 ?_;gi_wp2;go_ret;exact⟨by rw[m.out];first|rfl|simp[x],rfl⟩
 rcases cG (s.toList== [114,111,117,110,100])with z|z;·have m:=Hd (ae (l:= [114,111,117,110,100]) z oT);refine ent func190 rfl ntmps190 ?_;gi_wp2;go_ret;exact⟨by rw[m.out];first|rfl|simp[z],rfl⟩
 rcases cG (s.toList== [112,97,110,101,108])with D|D;·have m:=Hd (ae (l:= [112,97,110,101,108]) D oT);refine ent func190 rfl ntmps190 ?_;gi_wp2;go_ret;exact⟨by rw[m.out];first|rfl|simp[D],rfl⟩
 rcases cG (s.toList== [113,117,111,116,97])with E|E;·have m:=Hd (ae (l:= [113,117,111,116,97]) E oT);refine ent func190 rfl ntmps190 ?_;gi_wp2;go_ret;exact⟨by rw[m.out];first|rfl|simp[E],rfl⟩
 rcases cG (s.toList== [111,118,101,114])with F|F;·have m:=Hd (ae (l:= [111,118,101,114]) F oT);refine ent func190 rfl ntmps190 ?_;gi_wp2;go_ret;exact⟨by rw[m.out];first|rfl|simp[F],rfl⟩
 rcases cG (s.toList== [117,110,100,101,114])with G|G;·have m:=Hd (ae (l:= [117,110,100,101,114]) G oT);refine ent func190 rfl ntmps190 ?_;gi_wp2;go_ret;exact⟨by rw[m.out];first|rfl|simp[G],rfl⟩
 rcases cG (s.toList== [108,111,116,115])with H|H;·have m:=Hd (ae (l:= [108,111,116,115]) H oT);refine ent func190 rfl ntmps190 ?_;gi_wp2;go_ret;exact⟨by rw[m.out];first|rfl|simp[H],rfl⟩
 rcases cG (s.toList== [102,114,101,101])with I|I;·have m:=Hd (ae (l:= [102,114,101,101]) I oT);refine ent func190 rfl ntmps190 ?_;gi_wp2;go_ret;exact⟨by rw[m.out];first|rfl|simp[I],rfl⟩
 rcases cG (s.toList== [112,108,97,99,101,115])with J|J;·have m:=Hd (ae (l:= [112,108,97,99,101,115]) J oT);refine ent func190 rfl ntmps190 ?_;gi_wp2;go_ret;exact⟨by rw[m.out];first|rfl|simp[J],rfl⟩
 rcases cG (s.toList== [112,114,105,122,101,115])with K|K;·have m:=Hd (ae (l:= [112,114,105,122,101,115]) K oT);refine ent func190 rfl ntmps190 ?_;gi_wp2;go_ret;exact⟨by rw[m.out];first|rfl|simp[K],rfl⟩
 rcases cG (s.toList== [112,111,105,110,116,115])with L|L;·have m:=Hd (ae (l:= [112,111,105,110,116,115]) L oT);refine ent func190 rfl ntmps190 ?_;gi_wp2;go_ret;exact⟨by rw[m.out];first|rfl|simp[L],rfl⟩
 rcases cG (s.toList== [98,101,115,116])with O|O;·have m:=Hd (ae (l:= [98,101,115,116]) O oT);refine ent func190 rfl ntmps190 ?_;gi_wp2;go_ret;exact⟨by rw[m.out];first|rfl|simp[O],rfl⟩
 rcases cG (s.toList== [108,101,97,115,116])with P|P;·have m:=Hd (ae (l:= [108,101,97,115,116]) P oT);refine ent func190 rfl ntmps190 ?_;gi_wp2;go_ret;exact⟨by rw[m.out];first|rfl|simp[P],rfl⟩
 rcases cG (s.toList== [103,114,101,97,116,101,115,116])with Q|Q;·have m:=Hd (ae (l:= [103,114,101,97,116,101,115,116]) Q oT);refine ent func190 rfl ntmps190 ?_;gi_wp2;go_ret;exact⟨by rw[m.out];first|rfl|simp[Q],rfl⟩
 rcases cG (s.toList== [105,102])with S|S;·have m:=Hd (ae (l:= [105,102]) S oT);refine ent func190 rfl ntmps190 ?_;gi_wp2;go_ret;exact⟨by rw[m.out];first|rfl|simp[S],rfl⟩
 rcases cG (s.toList== [117,112,116,111])with T|T;·have m:=Hd (ae (l:= [117,112,116,111]) T oT);refine ent func190 rfl ntmps190 ?_;gi_wp2;go_ret;exact⟨by rw[m.out];first|rfl|simp[T],rfl⟩
 rcases cG (s.toList== [116,104,101,110])with U|U;·have m:=Hd (ae (l:= [116,104,101,110]) U oT);refine ent func190 rfl ntmps190 ?_;gi_wp2;go_ret;exact⟨by rw[m.out];first|rfl|simp[U],rfl⟩
 rcases cG (s.toList== [101,108,115,101])with X|X;·have m:=Hd (ae (l:= [101,108,115,101]) X oT);refine ent func190 rfl ntmps190 ?_;gi_wp2;go_ret;exact⟨by rw[m.out];first|rfl|simp[X],rfl⟩
 rcases cG (s.toList== [101,110,100])with Y|Y;·have m:=Hd (ae (l:= [101,110,100]) Y oT);refine ent func190 rfl ntmps190 ?_;gi_wp2;go_ret;exact⟨by rw[m.out];first|rfl|simp[Y],rfl⟩
 have m:=Hd (Yb (s:=s) (by simp only[U8,cB,dz,il,forall_eq_or_imp,forall_eq];exact⟨a,b,y,N,Z,h5,h6,h7,h8,h9,d,f,g,h,i,j,o,t,u,x,z,D,E,F,G,H,I,J,K,L,O,P,Q,S,T,U,X,Y⟩));refine ent func190 rfl ntmps190 ?_;gi_wp2;go_ret;exact⟨by rw[m.out];first|rfl|simp[*],rfl⟩
theorem GK(s:ByteArray)(w:World):Calls prog 145 #[.string s] w fun e w'=>e=.returned (.bool (bZ s))/\w=w':=by
 refine wid ?_;obtain⟨a,b⟩:=aC (nameB s);obtain⟨f,d⟩:=aC (Ud s gY);have m:=Hd (show bZ s=(a&& !f) by rw[bZ,b,d]);have g:=Hd b;have h:=Hd d;clear b d;cases a<;>cases f
 all_goals
  refine ent func145 rfl ntmps145 ?_
  gi_wp2_with (first
   |(refine Cl 190 (U9 _ _) ?_;rintro e w' ⟨rfl,rfl⟩;rw[h.out])
   |(refine Cl 189 (Rn _ _) ?_;rintro e w' ⟨rfl,rfl⟩;rw[g.out])
   |(refine⟨bq,?_⟩))
  go_ret;exact⟨by rw[m.out];first|rfl|simp,rfl⟩
theorem Ky(x:aU):iM x<=nodes x:=by
 induction x using iY with
 |_ x ih=>
  have b:∀l:List aU,(∀y,y∈l->iM y<=nodes y)->fO l<=dh l:=by
   intro l
   induction l with
   |nil=>intro _;simp[fO,dh]
   |cons y l ihl=>intro h;have d:=h y cd;have f:=ihl fun z a=>h z (bz _ a);rw[fO,dh];omega
  have:=b x.l ih;rw[IQ,gV];omega
theorem C_:∀(x:aU) {M:List Nat}{A:Option Addr}{m c:Nat}{w:World},Sl aU w M A m c x.l->nodes x<=100000->
 CB 188 #[.agg #[.int .i64 x.kind,.string x.name,.int .i64 x.n,.int .i64 x.d,.slice A m c]] (.int .i64 ((iM x:Nat):Int)) w:=by
 intro x
 induction x using iY with
 |_ x ih=>
 intro M A m c w hs hl;refine wid ?_;have ad:=hs.small;have HM:=Hd hs.len;have HN:=Hd (IQ x);have D:=Hd (cD (Ky x) hl);have II:=Hd (fun y (g:y∈x.l)=>cD (fK g) (show dh x.l<=100000 by have:=gV x;omega));obtain⟨l,P⟩:=aC x.l;rw[P]at hs HM HN ih II;have IH:=Hd ih;have H:=Hd hs;obtain⟨X,j⟩:=aC (iM x);rw[j]at HN D;obtain⟨kd,K⟩:=aC x.kind;obtain⟨nm,N⟩:=aC x.name;obtain⟨S,Q⟩:=aC x.n;obtain⟨xd,O⟩:=aC x.d;rw[K,N,Q,O,j];clear hs ih P j K N Q O;obtain⟨W1,ac,F1⟩:=dR ((Fr.nil w).a w [.int .i64 kd,.string nm,.int .i64 S,.int .i64 xd,.slice A m c] 66);refine op1 F1 ?_;intros;have F:=Hd F1;clear F1;refine ent func188 rfl ntmps188 ?_;gi_wp2;gi_loopw[3,4] (fun v0 i wr=>∃k:Nat,k<=m/\v0=.int .i64 ((fO (l.take k):Nat):Int)/\i=.int .i64 k/\Hid (Fr w wr [(w, [.int .i64 kd,.string nm,.int .i64 S,.int .i64 xd,.slice A m c])])) (fun _ i _=>m-(intOf i).toNat);case atStart=>exact⟨0,bO _,by simp[fO],rfl,F⟩
 case round=>
  obtain⟨k,hk,rfl,rfl,f⟩:=hrel;have I:=f.out;refine op1 I ?_;intros;clear I;obtain⟨T,h⟩:=aC (fO (l.take k));rw[h];have E:=Hd h;clear h;by_cases L:k<m
  ·obtain⟨y,g⟩:=dW l k (by rw[HM.out];exact L);obtain⟨b,o,B,n',d',rfl,⟨h0,h1,G,h3,h4⟩,-,hys⟩:=(H.out.go f.out.bl).qQ g;have u:=aR g;obtain⟨Y,t⟩:=aC (iM y);have Z:=Hd (show fO (l.take (k+1))=max T Y by rw[Cc g,E.out,t]);have z:=Hd (IH.out y u hys (II.out y u));rw[t]at z;clear g u t hys
   gi_wp2_with (first
    |(refine Cl 188 z.out ?_;rintro e w2 ⟨rfl,J⟩;have U:=Hd (f.out.go J);clear J)
    |fail)
   exact⟨⟨k+1,oE,by rw[Z.out];simp;omega,by go_num,U⟩,by simp[intOf];omega⟩
  ·have aa:k=m:=oE;clear hk L;subst aa;have e2:X=T+1:=by
    have h1:=HN.out;have G:=E.out;rw[bL (by rw[HM.out];exact bh _)]at G;omega
   subst e2;have ab:=D.out;gi_wp2;go_ret;exact⟨by first|rfl|(apply jL;go_num),f.out.bl⟩
theorem seven(a b c d e f g:Prop):a\/(¬a/\b)\/(¬a/\¬b/\c)\/(¬a/\¬b/\¬c/\d)\/(¬a/\¬b/\¬c/\¬d/\e)\/(¬a/\¬b/\¬c/\¬d/\¬e/\f)\/(¬a/\¬b/\¬c/\¬d/\¬e/\¬f/\g)\/(¬a/\¬b/\¬c/\¬d/\¬e/\¬f/\¬g):=by by_cases a<;>by_cases b<;>by_cases c<;>by_cases d<;>by_cases e<;>by_cases f<;>simp[*]<;>exact Classical.em g
theorem Kz{y:aJ}(h:256<nodes (au y)\/16<iM (au y)):jI y=false:=by unfold jI;exact cE oE
theorem GL{M:List Nat}{r:aS}{w:World}(hr:dG w M r s1 s2 s3 s4 s5 s6 s7):
 CB 143 #[.agg (aV r s1 s2 s3 s4 s5 s6 s7).toArray] (.bool (!fD r)) w:=by
 refine wid ?_;obtain⟨A4,F,c4⟩:=s4;obtain⟨A5,z,c5⟩:=s5;have xg:Sl dA w M A4 F c4 r.ties:=hr.ties;have xq:Sl aJ w M A5 z c5 r.rounds:=hr.rounds;have n1:=hr.aT.len;have n2:=hr.bonus.len;have n3:=hr.malus.len;have n4:=xg.len;have n5:=xq.len;have n6:=hr.prizes.len;have n7:=hr.points.len;have H:=Hd2 xg xq;have HL:=Hd2 n4 n5;have m4:=xg.small;have m5:=xq.small;obtain⟨W1,ac,F1⟩:=dR ((Fr.nil w).a w (aV r s1 s2 s3 ⟨A4,F,c4⟩ ⟨A5,z,c5⟩ s6 s7) 28);have hS:sJ r= [((s1.n:Int),(64:Int)),((s2.n:Int),64),((s3.n:Int),64),((F:Int),16),((z:Int),8),((s6.n:Int),64),((s7.n:Int),64)]:=by unfold sJ;rw[n1,n2,n3,n4,n5,n6,n7]
 have J:fD r=(!(sJ r).any jA&&r.ties.all jY&&r.rounds.all jI):=rfl;rw[hS]at J;simp only[gP,mq,jA,mc]at J;refine op1 F1 ?_;intros;have HF:=Hd F1;clear xg xq n1 n2 n3 n4 n5 n6 n7 hr F1 hS;rcases seven ((s1.n:Int)>64) ((s2.n:Int)>64) ((s3.n:Int)>64) ((F:Int)>16) ((z:Int)>8) ((s6.n:Int)>64) ((s7.n:Int)>64)with G|⟨G,I⟩|⟨G,I,N⟩|⟨G,I,N,X⟩|⟨G,I,N,X,g5⟩|⟨G,I,N,X,g5,g6⟩|⟨G,I,N,X,g5,g6,g7⟩|⟨G,I,N,X,g5,g6,g7⟩
 iterate 7
  ·have m:=Hd (show(!fD r)=true by
     rw[J,gT,Bool.and_eq_false_iff,Bool.and_eq_false_iff,Bool.not_eq_false'];refine .inl (.inl ?_);simp only[ik,du];omega)
   clear J;refine ent func143 rfl ntmps143 ?_;gi_wp2;go_ret;exact⟨by rw[m.out];first|rfl|simp,HF.out.bl⟩
 have T:=Hd (show fD r=(r.ties.all jY&&r.rounds.all jI) by rw[J];have:∀a b:Bool,a=false->(!a&&b)=b:=oR;rw[ia];refine this _ _ ?_;simp only[iv,gD];omega);clear J;refine ent func143 rfl ntmps143 ?_;gi_wp2;gi_loopw[3] (fun i wr=>∃k:Nat,k<=F/\i=.int .i64 k/\W1=wr/\Hid ((r.ties.drop k).all jY=r.ties.all jY)) (fun i _=>F-(intOf i).toNat);case atStart=>exact⟨0,bO _,rfl,by first|rfl|exact ac|exact ac.symm,Hd rfl⟩
 case round=>
  obtain⟨k,hk,rfl,rfl,S⟩:=hrel;by_cases Q:k<F
  ·obtain⟨t,Z⟩:=dW r.ties k (by rw[HL.a];exact Q);have x:=iC (P:=jY) Z;obtain⟨bb,o,B,m',d',rfl,⟨h0,h1⟩,hks⟩:=(H.a.go HF.out.bl).n_ Z;have Y:=hks.len;rw[S.out]at x;by_cases hm:(m':Int)>32
   ·have m:=Hd (show fD r=false by
      rw[T.out,x];unfold jY jA;rw[Y,cw hm];simp)
    clear Z x hks Y;gi_wp2;go_ret;exact⟨by rw[m.out];rfl,HF.out.bl⟩
   have ad:=Hd (show(r.ties.drop (k+1)).all jY=r.ties.all jY by rw[x];unfold jY jA;rw[Y,cE hm];simp);clear Z x hks Y;gi_wp2;exact⟨⟨k+1,oE,by go_num,bq,ad⟩,by simp[intOf];omega⟩
  ·have ag:k=F:=oE;have HT:=Hd (show r.ties.all jY=true by rw[<-S.out,jr (by rw[HL.a];omega)]);clear hk Q;subst ag;gi_wp2;gi_loopw[4] (fun i wr=>∃j:Nat,j<=z/\i=.int .i64 j/\Hid (Fr w wr [(w,aV r s1 s2 s3 ⟨A4,k,c4⟩ ⟨A5,z,c5⟩ s6 s7)])/\Hid ((r.rounds.drop j).all jI=r.rounds.all jI)) (fun i _=>z-(intOf i).toNat);case atStart=>exact⟨0,bO _,rfl,HF,Hd rfl⟩
   case round=>
    obtain⟨j,hj,rfl,K,S⟩:=hrel;have f:=K.out;refine op1 f ?_;intros;clear f;by_cases Q:j<z
    ·obtain⟨y,hy⟩:=dW r.rounds j (by rw[HL.u];exact Q);have x:=iC (P:=jI) hy;obtain⟨b,o,B,m',d',rfl,-,⟨h6,h7,h8,h9,ab⟩,-,-,-,hys⟩:=(H.u.go K.out.bl).iw hy;have U:=Hd (yR (au y) hys (show 256<=100000 by omega));rw[S.out]at x;obtain⟨P,hP⟩:=aC (qU (nodes (au y)) 256);obtain⟨D,hD⟩:=aC (iM (au y));have E:=Hd (And.intro hP hD);rw[hP]at U;have L:=fB hy x hys;clear hy x hys hP hD;by_cases hp:(P:Int)>256
     ·have m:=Hd (show fD r=false by
        rw[T.out,L.b,Kz (.inl (by have:=E.a;unfold qU at this;omega))];simp)
      gi_wp2_with (first
       |(refine Cl 51 U.out ?_;rintro e w2 ⟨rfl,d⟩;have h:=Hd (K.out.go d);have f:=h.out;refine op1 f ?_;intros;clear d f)
       |(refine⟨bq,?_⟩))
      go_ret;exact⟨by rw[m.out];rfl,h.out.bl⟩
     by_cases hd:(D:Int)>16
     ·have m:=Hd (show fD r=false by
        rw[T.out,L.b,Kz (.inr (by have:=E.u;omega))];simp)
      gi_wp2_with (first
       |(have g:=h.out;clear g;refine Cl 188 aa.out ?_;rintro e w3 ⟨rfl,O⟩;rw[E.u];have F3:=Hd (h.out.go O);clear O)
       |(refine Cl 51 U.out ?_;rintro e w2 ⟨rfl,d⟩;have h:=Hd (K.out.go d);have aa:=Hd (C_ (au y) (L.v.go d) (by have:=E.a;unfold qU at this;omega));have f:=h.out;have ah:=Hd d;have e6:=(a_ d []).cell oO h6;have e7:=(a_ d []).cell oO h7;have e8:=(a_ d []).cell oO h8;have e9:=(a_ d []).cell oO h9;have ae:=(a_ d []).cell oO ab;refine op1 f ?_;intros;clear d f)
       |fail)
      go_ret;exact⟨by rw[m.out];rfl,F3.out.bl⟩
     have m:=Hd (show(r.rounds.drop (j+1)).all jI=r.rounds.all jI by rw[L.b];have:jI y=true:=cw (by have:=E.a;have:=E.u;unfold qU at*;omega);rw[this,ff])
     gi_wp2_with (first
      |(have g:=h.out;clear g;refine Cl 188 aa.out ?_;rintro e w3 ⟨rfl,O⟩;rw[E.u];have F3:=Hd (h.out.go O);clear O)
      |(refine Cl 51 U.out ?_;rintro e w2 ⟨rfl,d⟩;have h:=Hd (K.out.go d);have aa:=Hd (C_ (au y) (L.v.go d) (by have:=E.a;unfold qU at this;omega));have f:=h.out;have e6:=(a_ d []).cell oO h6;have e7:=(a_ d []).cell oO h7;have e8:=(a_ d []).cell oO h8;have e9:=(a_ d []).cell oO h9;have ae:=(a_ d []).cell oO ab;refine op1 f ?_;intros;clear d f)
      |fail)
     exact⟨⟨j+1,oE,by go_num,F3,m⟩,by simp[intOf];omega⟩
    ·have af:j=z:=oE;have m:=Hd (show fD r=true by rw[T.out,HT.out,<-S.out,jr (by rw[HL.u];omega)];rfl);clear hj Q;subst af;gi_wp2;go_ret;exact⟨by rw[m.out];rfl,K.out.bl⟩
attribute [local go_sem] cK
def tS(t0 t1 t2 t3:dK):Nat->dK
 |0=>t0
 |1=>t1
 |2=>t2
 |_=>t3
def NY(r:aS):Nat->List ByteArray
 |0=>dP r
 |1=>UG r
 |2=>jF r
 |_=>dQ r
theorem JO.nth{w:World}{M:List Nat}{r:aS}{t0 t1 t2 t3:dK}(h:JO w M r t0 t1 t2 t3):∀i,Sl ByteArray w M (tS t0 t1 t2 t3 i).A (tS t0 t1 t2 t3 i).n (tS t0 t1 t2 t3 i).c (NY r i)
 |0=>h.c
 |1=>h.i
 |2=>h.t
 |_+3=>h.r
theorem U_(t0 t1 t2 t3:dK):∀i,i<4->(Af t0 t1 t2 t3)[i]?=some (.slice (tS t0 t1 t2 t3 i).A (tS t0 t1 t2 t3 i).n (tS t0 t1 t2 t3 i).c)
 |0,_=>rfl
 |1,_=>rfl
 |2,_=>rfl
 |3,_=>rfl
 |_+4,h=>by omega
def uZ(r:aS):Nat->Bool
 |0=>bZ r.name
 |i+1=>uZ r i&&(NY r i).all bZ
def vN(nm:List ByteArray):Nat->Bool
 |0=>false
 |k+1=>vN nm k||decide (¬dO nm (nm.getD k ByteArray.empty)=(k:Int))
def Fb(r:aS):Nat->Bool
 |0=>false
 |i+1=>Fb r i||vN (NY r i) (NY r i).length
def vO(r:aS)(y:aJ):aJ:=(y.1,y.2.1,y.2.2.1,y.2.2.2.1,y.2.2.2.2.1,y.2.2.2.2.2.1,fH (dP r) (dQ r) (au y),qX y,if(qX y).toList= []then-1 else dO (jF r) (qX y))
def Va(r:aS)(y:aJ):Bool:=okR (dP r) (dQ r) (au y)&&(decide ((qX y).toList= [])||decide (0<=dO (jF r) (qX y)))
def yV(r:aS)(t:dA):dA:=(t.1,t.2.map (iW (dP r) (dQ r) (jF r)))
def okT(r:aS)(t:dA):Bool:=t.2.all (I_ (dP r) (dQ r) (jF r))
def Fe(r:aS):aS:={ r with ties:=r.ties.map (yV r),rounds:=r.rounds.map (vO r) }
def Yc(r:aS):Bool:=r.ties.all (okT r)&&r.rounds.all (Va r)
def jJ(r:aS):Int:=if fD r=false then 2 else if uZ r 4=false then 140 else if Fb r 4=true then 141 else if Yc r=false then 140 else 0
theorem Vb{M:List Nat}{r:aS}{w:World}(hr:dG w M r s1 s2 s3 s4 s5 s6 s7)(hs:fD r=false):
 CB 101 #[.agg (aV r s1 s2 s3 s4 s5 s6 s7).toArray] (.tuple #[.agg nR.toArray,.int .i64 2]) w:=by
 refine wid ?_;obtain⟨W1,y,F1⟩:=dR (((Fr.nil w).a w (aV r s1 s2 s3 s4 s5 s6 s7) 28).a (w+1) nR 28);refine op1 F1 ?_;intros;have H:=Hd (hr.go F1.bl);have g:=Hd hs;have HF:=Hd F1;clear F1 hr hs;refine ent func101 rfl ntmps101 ?_
 gi_wp2_with (first
  |(refine Cl 143 (GL H.out) ?_;rintro e f ⟨rfl,hb⟩;rw[g.out];have j:=Hd (HF.out.go hb);have d:=j.out;refine op1 d ?_;intros;clear hb d)
  |fail)
 clear y;refine(fun(h:∀U,fM f (w.heap.size+1) 0 nR=U->bodyPost _ _ _ _ _ U)=>h _ rfl) ?_;intro U m;have kb:=iO (w:=f) (b:=w+1) (vs:=nR) (us:=nR) (fun i u o=>j.out.at_ (w.heap.size+1) _ oO i u o) rfl m;have t:=(kb.1 0 _ rfl).1;have x:=(kb.1 1 _ rfl).1;have z:=(kb.1 2 _ rfl).1;have D:=(kb.1 3 _ rfl).1;have E:=(kb.1 4 _ rfl).1;have F:=(kb.1 5 _ rfl).1;have G:=(kb.1 6 _ rfl).1;have I:=(kb.1 7 _ rfl).1;have J:=(kb.1 8 _ rfl).1;exact⟨rfl,.tuple #[.agg nR.toArray,.int .i64 2],by simp[results,go_sem,t,x,z,D,E,F,G,I,J],rfl,j.out.bl.trans (kb.2.bl.mono oE)⟩
end
theorem GZ(x:aU):∀y,fE x y=true↔x=y:=by
 induction x using iY with
 |_ x ih=>
  have i:∀l f:List aU,(∀y,y∈l->∀z,fE y z=true↔y=z)->(fQ l f=true↔l=f):=by
   intro l
   induction l with
   |nil=>
    intro f _
    cases f with
    |nil=>simp[fQ]
    |cons _ _=>simp[fQ]
   |cons a l ihl=>
    intro f h
    cases f with
    |nil=>simp[fQ]
    |cons b f=>rw[fQ,cJ,h a cd b,ihl f (fun y g=>h y (bz _ g)),mC]
  intro y;rw[KA];simp only[cJ,du,i x.l y.l ih];cases x;cases y;simp[aU.kind,aU.name,aU.n,aU.d,aU.l,and_assoc]
def xU(r:aS)(k:bK):Bool:=decide (iW (dP r) (dQ r) (jF r) k=k)
def KE(r:aS)(y:aJ):Bool:=decide ((vO r y).2.2.2.2.2.2.2.2=y.2.2.2.2.2.2.2.2)&&fE (fH (dP r) (dQ r) (au y)) (au y)
def xX(r:aS):Bool:=(r.ties.all fun t=>t.2.all (xU r))&&r.rounds.all (KE r)
def xY(r:aS):Int:=if jJ r=0 then(if xX r=true then 0 else 140)else jJ r
theorem Dl{r:aS}(h:xY r=0):jJ r=0/\xX r=true:=by
 unfold xY at h;split at h
 ·rename_i h1;split at h;·rename_i h2;exact⟨h1,h2⟩
  cases h
 rename_i h1;exact absurd h h1
theorem Dn{r:aS}(h:jJ r=0):fD r=true/\uZ r 4=true/\Fb r 4=false/\Yc r=true:=by
 unfold jJ at h
 cases b:fD r with
 |false=>rw[b,if_pos rfl]at h;cases h
 |true=>
  cases d:uZ r 4 with
  |false=>rw[b,d,if_neg oO,if_pos rfl]at h;cases h
  |true=>
   cases a:Fb r 4 with
   |true=>rw[b,d,a,if_neg oO,if_neg oO,if_pos rfl]at h;cases h
   |false=>
    cases D:Yc r with
    |false=>rw[b,d,a,D,if_neg oO,if_neg oO,if_neg oO,if_pos rfl]at h;cases h
    |true=>exact⟨rfl,rfl,rfl,rfl⟩
theorem Qi{nm:List ByteArray}:∀(n:Nat),vN nm n=false->∀(k:Nat) (s:ByteArray),k<n->nm[k]?=some s->dO nm s=(k:Int)
 |0,_,k,_,hk,_=>by omega
 |n+1,h,k,s,hk,hs=>by
  unfold vN at h;rw[iv]at h;by_cases e:k=n;·subst e;have h2:=fW h.2;rw[cx,hs]at h2;exact Classical.byContradiction h2
  exact Qi n h.1 k s oE hs
theorem xZ{nm:List ByteArray}(h:vN nm nm.length=false):dX nm nm.length=true:=Qb (fun k s hs=>Qi _ h k s (bj.1 hs).1 hs) _ pc
theorem G_(h:bZ s=true):s.size<=maxLen:=by unfold bZ nameB at h;simp only[cJ,du]at h;have:=h.1.1.1.2;unfold maxLen;omega
theorem Dp(h:s.toList= []):s.size<=maxLen:=by
 rw[Lib.toList_data]at h;have:s.size=0:=by show s.data.size=0;rw[<-gj,h];rfl
 rw[this];exact bO _
theorem uG{nm:List ByteArray}(hf:nm.all bZ=true)(h:0<=dO nm s):s.size<=maxLen:=by obtain⟨k,a⟩:∃k:Nat,dO nm s=(k:Int):=⟨(dO nm s).toNat,oE⟩;exact G_ (cQ.1 hf s (aR (I8 a)))
theorem Qj{α:Type}{f:α->α}:∀{l:List α},l.map f=l->∀x,x∈l->f x=x
 |y::l,h,x,hx=>by
  rw[fg,mC]at h;rcases cB.1 hx with rfl|hx;·exact h.1
  exact Qj h.2 x hx
theorem Qk{α:Type}{f:α->α}:∀{l:List α},(∀x,x∈l->f x=x)->l.map f=l
 | [],_=>rfl
 |y::l,h=>by rw[fg,h y cd,Qk (fun x hx=>h x (bz _ hx))]
theorem af_(hc:dX cn cn.length=true)(hr:dX rn rn.length=true)(x:aU):okR cn rn x=true->fH cn rn x=x->iV cn rn x=false/\lC cn rn x=x:=by
 induction x using iY with
 |_ x ih=>
  intro i o;obtain⟨k,s,n,d,l⟩:=x;rw[okR,cJ,qC,cQ]at i;rw[iV,lC];have j:=o;rw[fH,mg,aU.mk.injEq]at j;replace ih:∀y,y∈l->okR cn rn y=true->fH cn rn y=y->iV cn rn y=false/\lC cn rn y=y:=ih;obtain⟨-,-,f,-,t⟩:=j;have u:=Qj t;have m:=fun y g=>ih y g (i.2 y g) (u y g);have G:Gv cn rn l=false:=by rw[nP,List.any_eq_false];intro y g;rw[(m y g).1];simp
  have N:E5 cn rn l=l:=by rw[xH];exact Qk (fun y g=>(m y g).2)
  rw[G,N,mc];have b:=i.1;unfold sO qW;by_cases a:k=2;·rw[if_pos a]at f b;have:=qB hc (cW b);rw[if_pos a,if_pos a,this.2,f];exact⟨this.1,rfl⟩
  ·rw[if_neg a]at f b;rw[if_neg a,if_neg a];by_cases h:k=5;·rw[if_pos h]at f b;have:=qB hr (cW b);rw[if_pos h,if_pos h,this.2,f];exact⟨this.1,rfl⟩
   rw[if_neg h,if_neg h];exact⟨rfl,rfl⟩
theorem N_{k:Int}{nu:Bool}(h:qZ vT k=some (u_ p nu true)):k=2\/k=5:=by
 simp only[vT,qZ]at h;by_cases d:k=2;·exact .inl d
 by_cases K:k=5;·exact .inr K
 exfalso
 repeat' split at h
 all_goals first|omega|(simp[u_]at h)
theorem Yg{y:aU}(h:pX y)(h2:¬y.kind=2)(h5:¬y.kind=5):y.name.toList= []:=by
 obtain⟨d,b,h,a,-⟩:=h
 cases b with
 |false=>exact a rfl
 |true=>exact absurd (N_ h) oE
theorem Yh(hc:cn.all bZ=true)(hr:rn.all bZ=true)(x:aU):okR cn rn x=true->(∀y,y∈iZ x->¬y.kind=2->¬y.kind=5->y.name.toList= [])->Ut x:=by
 induction x using iY with
 |_ x ih=>
  intro d i;rw[I9,cJ,qC,cQ]at d;have m:=i x (by rw[lW];exact cd);have o:∀y,y∈x.l->Ut y:=fun y g=>ih y g (d.2 y g) (fun z t=>i z (by rw[lW];exact bz _ (qF g t)));have u:∀l:List aU,(∀y,y∈l->Ut y)->XU l:=by
   intro l
   induction l with
   |nil=>intro _;rw[XU];trivial
   |cons a l ihl=>intro h;rw[XU];exact⟨h a cd,ihl fun y g=>h y (bz _ g)⟩
  have hs:x.name.size<=maxLen:=by
   have b:=d.1;by_cases f:x.kind=2;·rw[if_pos f]at b;exact uG hc (cW b)
   rw[if_neg f]at b;by_cases j:x.kind=5;·rw[if_pos j]at b;exact uG hr (cW b)
   exact Dp (m f j)
  have:=u x.l o;cases x;rw[Ut];exact⟨hs,this⟩
theorem Oa{tn:List ByteArray}(hc:dX cn cn.length=true)(hr:dX rn rn.length=true)(ht:dX tn tn.length=true)(h1:I_ cn rn tn k=true)(h2:iW cn rn tn k=k):
 (k.1=1->0<=dO cn k.2.1/\lU cn k.2.1 k.2.2)/\(k.1=2->0<=dO rn k.2.1/\lU rn k.2.1 k.2.2)/\(k.1=5->0<=dO tn k.2.1/\lU tn k.2.1 k.2.2):=by
 obtain⟨kd,nm,n⟩:=k;unfold iW at h2;unfold I_ at h1;simp only at h1 h2 |-;refine⟨fun e=>?_,fun e=>?_,fun e=>?_⟩;·rw[if_pos e]at h1 h2;simp only[eV,true_and]at h2;have a:=cW h1;exact⟨a,h2▸qB hc a⟩
 ·rw[if_neg oE,if_pos e]at h1 h2;simp only[eV,true_and]at h2;have a:=cW h1;exact⟨a,h2▸qB hr a⟩
 ·rw[if_neg oE,if_neg oE,if_pos e]at h1 h2;simp only[eV,true_and]at h2;have a:=cW h1;exact⟨a,h2▸qB ht a⟩
structure RF(r:aS):Prop where
 parts:∀y,y∈r.rounds->nodes (au y)<=1000
 len:r.aT.length<=1000/\r.bonus.length+r.malus.length<=1000/\r.ties.length<=1000/\r.rounds.length<=1000
 NT:∀t,t∈r.ties->t.2.length<=1000
theorem aga{r:aS}(hc:xY r=0)(hw:RF r)(hf:F15 r):ZH r:=by
 obtain⟨U,d⟩:=Dl hc;obtain⟨Q,S,T,f⟩:=Dn U;have F:(bZ r.name&&(dP r).all bZ&&(UG r).all bZ&&(jF r).all bZ&&(dQ r).all bZ)=true:=S;have G:(false||vN (dP r) (dP r).length||vN (UG r) (UG r).length||vN (jF r) (jF r).length||vN (dQ r) (dQ r).length)=false:=T;simp only[cJ]at F;simp only[iv]at G;obtain⟨⟨⟨⟨f0,f1⟩,f2⟩,f3⟩,f4⟩:=F;obtain⟨⟨⟨⟨-,O⟩,d2⟩,d3⟩,d4⟩:=G;have u:=xZ O;have o2:=xZ d2;have D:=xZ d3;have E:=xZ d4;unfold xX at d;rw[cJ,cQ,cQ]at d;unfold Yc at f;rw[cJ,cQ,cQ]at f;have b:∀{nm:List ByteArray},nm.all bZ=true->∀s,s∈nm->s.size<=maxLen:=fun h s hs=>G_ (cQ.1 h s hs)
 refine⟨Q,hw.parts,hw.len,hw.NT,fun x hx=>b f1 _ (mo hx),fun x hx=>b f2 _ (mo hx),fun x hx=>b f3 _ (mo hx),fun x hx=>b f4 _ (mo hx),
  by have:=f1;rwa [List.all_map]at this,by have:=f2;rwa [List.all_map]at this,by have:=f3;rwa [List.all_map]at this,by have:=f4;rwa [List.all_map]at this,
  by have:=u;rwa [cC]at this,by have:=o2;rwa [cC,cH]at this,by have:=D;rwa [cC]at this,by have:=E;rwa [cC]at this,f0,fun t j k i=>?_,fun y m=>?_⟩
 ·have N:iW (dP r) (dQ r) (jF r) k=k:=cW (cQ.1 (d.1 t j) k i);have a:=cQ.1 (f.1 t j) k i;obtain⟨I,J,K⟩:=Oa u E D a N;have L:=(hf.ties t j).2 k i;refine⟨?_,fun e=>(I e).2,fun e=>(J e).2,fun e=>(K e).2⟩;rcases L with e|e|e|e;·exact uG f1 (I e).1
  ·exact uG f4 (J e).1
  ·exact uG f3 (K e).1
  exact Dp e.2.2
 have g:=d.2 y m;unfold KE at g;rw[cJ,du,GZ]at g;obtain⟨N,P⟩:=g;replace N:(if(qX y).toList= []then-1 else dO (jF r) (qX y))=XE y:=N;have a:=f.2 y m;unfold Va at a;rw[cJ,ik,du,du]at a;obtain⟨q1,q2⟩:=af_ u E (au y) a.1 P;obtain⟨-,-,-,-,k0,k1⟩:=hf.rounds y m;refine⟨Yh f1 f4 (au y) a.1 (fun z o d X=>?_),q1,q2,?_,?_⟩
 ·cases H:y.2.2.2.2.1 with
  |false=>exact Yg (k1 H z o) d X
  |true=>obtain⟨-,Z,-,-,Y⟩:=k0 H;rw[lW,Y,Ah,bE]at o;rw[o];exact Z
 ·by_cases e:(qX y).toList= [];·exact Dp e
  exact uG f3 (a.2.resolve_left e)
 by_cases e:(qX y).toList= [];·rw[if_pos e]at N;exact .inl ⟨e,N.symm⟩
 rw[if_neg e]at N;exact .inr ⟨e,N▸qB D (a.2.resolve_left e)⟩
section
open Go.RowKit Go.Shelf
theorem aW{w W:World}{L:List (Nat×List Value)}{q:Prop}(h:Fr w W L)(e:At W L=q:=by(simp only[de,dx,At,Ce,dm,Nat.reduceAdd,and_true];exact rfl)):q:=e▸h.Um
structure GN(α:Type) [kJ α] (e:TypeId)(w W wr:World)(r:aS)(R:List Value)(lb xb:Nat)(t0 t1 t2 t3:dK)(M:List Nat)(C:List Value)(v:Value)(l:List α):Prop where
 fr:Fr w wr ([(w.heap.size,R),(w.heap.size+1,nR),(lb,Af t0 t1 t2 t3)]++ [(xb,C)])
 nm:JO W [xb] r t0 t1 t2 t3
 own:bD α e wr (xb::(w.heap.size+1)::M) W.heap.size v l.length l
 kp:Keeps [xb] W wr
 xW:xb<W.heap.size
 lx:lb<xb
 wl:w.heap.size+1<lb
 bM:∀q,q∈M->q<w.heap.size
section
variable {α:Type} [kJ α] {e:TypeId}{w W wr wz:World}{r:aS}{R:List Value}{lb xb:Nat}{t0 t1 t2 t3:dK}{M:List Nat}{C:List Value}{v:Value}{l:List α}
theorem GN.go(h:GN α e w W wr r R lb xb t0 t1 t2 t3 M C v l)(hb:Below wr wr wz):GN α e w W wz r R lb xb t0 t1 t2 t3 M C v l:=⟨h.fr.go hb,h.nm,h.own.go hb,h.kp.trans (dk hb _),h.xW,h.lx,h.wl,h.bM⟩
theorem GN.start(h:Fr w wr ([(w.heap.size,R),(w.heap.size+1,nR),(lb,Af t0 t1 t2 t3)]++ [(xb,C)]))(hn:JO wr [xb] r t0 t1 t2 t3)(lx:lb<xb)(wl:w.heap.size+1<lb)(hM:∀q,q∈M->q<w.heap.size):GN α e w wr wr r R lb xb t0 t1 t2 t3 M C (.slice none 0 0) []:=⟨h,hn,bD.nil _ _ _,cF _ _,h.lt xb C oO,lx,wl,hM⟩
theorem GN.nmr(h:GN α e w W wr r R lb xb t0 t1 t2 t3 M C v l):JO wr [xb] r t0 t1 t2 t3:=⟨h.nm.c.keep h.kp,h.nm.i.keep h.kp,h.nm.t.keep h.kp,h.nm.r.keep h.kp⟩
theorem GN.lt(h:GN α e w W wr r R lb xb t0 t1 t2 t3 M C v l)(hq:q∈xb::(w.heap.size+1)::M):q<W.heap.size:=by
 have b:=h.xW;have d:=h.lx;have a:=h.wl;rcases cB.1 hq with rfl|hq;·exact b
 exact Y2
theorem GN.bel(h:GN α e w W wr r R lb xb t0 t1 t2 t3 M C v l):b_ (bP v++(xb::(w.heap.size+1)::M)) wr:=fun q hq=>by
 rcases cR.1 hq with hq|hq;·exact(h.own.lt (bJ.1 hq)).2
 exact cf (h.lt hq) h.kp.size
theorem GN.sl(h:GN α e w W wr r R lb xb t0 t1 t2 t3 M C v l)(hn:l.length<=100000):∃A c,v=.slice A l.length c/\Sl α wr (xb::(w.heap.size+1)::M) A l.length c l:=h.own.sl oE (fun _ hk=>h.lt hk)
theorem GN.step{t:TypeId}(h:GN α e w W wr r R lb xb t0 t1 t2 t3 M C v l)(ht:prog.underlying t=some (.slice e))(hi:iU e (Rep.sz α)){x:α}{cs:List Value}(hx:Rep.rd wr (bP v++(xb::(w.heap.size+1)::M)) x cs){j:Nat}{u0:Value}(hj:C[j]?=some u0)(hl:l.length<=100000):
 ∃v' wA,(Builtin.append_ #[t,t] t #[v,.slice (some ⟨wr,0,none⟩) 1 1]).run prog (wr.alloc (.cells cs.toArray e))=.ok v' wA/\Fr w wA ([(w.heap.size,R),(w.heap.size+1,nR),(lb,Af t0 t1 t2 t3)]++ [(xb,C)])/\GN α e w W (wA.setCell ⟨xb,j,none⟩ v') r R lb xb t0 t1 t2 t3 M (C.set j v') v' (l++ [x]):=by
 have E:=h.xW;have F:=h.lx;have G:=h.wl;obtain⟨v',wA,u,y,m,d,H⟩:=h.own.app1 (x:=x) (cs:=cs) ht hi h.kp.size (fun q a=>cf (h.lt a) h.kp.size) hx hl;have i:=h.fr.ZI m (fun k f=>by have D:=(h.own.lt f).1;refine⟨oE,fun b z g e=>?_⟩;subst e;simp only[dx,de,cB,eV,dz,il]at g;omega);refine⟨v',wA,u,i,⟨i.qY (fun c z g e=>by subst e;simp only[cB,eV,dz,il]at g;omega) hj v',h.nm,?_,(h.kp.grown m (fun k f=>.inr (h.own.lt f).1)).setCell (p:=⟨xb,j,none⟩) (.inl oO) v',h.xW,h.lx,h.wl,h.bM⟩⟩;·have o:(l++ [x]).length=l.length+1:=oO;rw[o];exact y.apart ((cF [xb] wA).setCell (p:=⟨xb,j,none⟩) (.inl oO) v') (fun q a=>by rw[bE]at a;subst a;exact cd) (fun q a e=>by rw[bE]at a;subst a;exact JL)
end
structure Qe(V W wr:World)(tb:Nat)(M:List Nat)(nm:ByteArray)(v:Value)(l:List bK):Prop where
 fr:Fr V wr ([]++ [(tb, [.string nm,v])])
 own:bD bK 113 wr (tb::M) W.heap.size v l.length l
 kp:Keeps [tb] W wr
 tW:tb<W.heap.size
 VW:V.heap.size<=W.heap.size
 bM:∀q,q∈M->q<W.heap.size
section
variable {V W wr wz:World}{tb:Nat}{M:List Nat}{nm:ByteArray}{v:Value}{l:List bK}
theorem Qe.go(h:Qe V W wr tb M nm v l)(hb:Below wr wr wz):Qe V W wz tb M nm v l:=⟨h.fr.go hb,h.own.go hb,h.kp.trans (dk hb _),h.tW,h.VW,h.bM⟩
theorem Qe.start(h:Fr V wr ([]++ [(tb, [.string nm,.slice none 0 0])]))(hM:∀q,q∈M->q<wr.heap.size):Qe V wr wr tb M nm (.slice none 0 0) []:=⟨h,bD.nil _ _ _,cF _ _,h.lt tb _ (cL _ (bE.2 rfl)),h.bl.size,hM⟩
theorem Qe.lt(h:Qe V W wr tb M nm v l)(hq:q∈tb::M):q<W.heap.size:=by
 rcases cB.1 hq with rfl|hq;·exact h.tW
 exact h.bM q hq
theorem Qe.sl(h:Qe V W wr tb M nm v l)(hn:l.length<=100000):∃A c,v=.slice A l.length c/\Sl bK wr (tb::M) A l.length c l:=h.own.sl oE (fun _ hk=>h.lt hk)
theorem Qe.step(h:Qe V W wr tb M nm v l){x:bK}(hi:i64 x.1/\i64 x.2.2)(hl:l.length<=100000):
 ∃v' wA,(Builtin.append_ #[110,110] 110 #[v,.slice (some ⟨wr,0,none⟩) 1 1]).run prog (wr.alloc (.cells #[.int .i64 x.1,.string x.2.1,.int .i64 x.2.2] 113))=.ok v' wA/\Fr V wA ([]++ [(tb, [.string nm,v])])/\Qe V W (wA.setCell ⟨tb,1,none⟩ v') tb M nm v' (l++ [x]):=by
 have f:(tb, [.string nm,v])∈([]++ [(tb, [.string nm,v])]:List (Nat×List Value)):=cL _ (bE.2 rfl);obtain⟨v',wA,u,y,m,d,E⟩:=h.own.app1 (x:=x) (cs:= [.int .i64 x.1,.string x.2.1,.int .i64 x.2.2]) underlying110 aaN h.kp.size (fun q a=>cf (h.lt a) h.kp.size) ⟨[_],_,rfl,⟨rfl,hi.1⟩, [_],_,rfl,rfl,⟨rfl,hi.2⟩⟩ hl;have i:=h.fr.ZI m (fun k g=>by have D:=(h.own.lt g).1;have K:=h.VW;have o:=h.tW;refine⟨oE,fun b z f e=>?_⟩;subst e;simp only[de,cB,eV,dz,il]at f;omega);refine⟨v',wA,u,i,⟨i.qY (j:=1) (u0:=v) (fun c z f=>by cases f) rfl v',?_,(h.kp.grown m (fun k g=>.inr (h.own.lt g).1)).setCell (p:=⟨tb,1,none⟩) (.inl oO) v',h.tW,h.VW,h.bM⟩⟩;have t:(l++ [x]).length=l.length+1:=oO;rw[t];exact y.apart ((cF [tb] wA).setCell (p:=⟨tb,1,none⟩) (.inl oO) v') (fun q a=>by rw[bE]at a;subst a;exact cd) (fun q a e=>by rw[bE]at a;subst a;have o:=h.tW;exact JL)
end
theorem agb{w:World}{M:List Nat}{nm:ByteArray}{l:List bK}(hs:Sl bK w M A n c l):Rep.rd w M ((nm,l):dA) [.string nm,.slice A n c]:=⟨[_], [_],rfl,rfl,A,n,c,rfl,hs⟩
attribute [local go_sem] cK
theorem RG(s:ByteArray)(a b:Int)(w:World):(binOp .neq 156 (.agg #[.string s,.int .i64 a,.int .i64 b]) (.agg #[.string s,.int .i64 a,.int .i64 b])).run prog w=.ok (.bool false) w:=by go_simp
theorem RH(s:ByteArray)(a b c d e:Int)(v:Bool)(w:World):(binOp .neq 59 (.agg #[.string s,.int .i64 a,.int .i64 b,.int .i64 c,.int .i64 d,.int .i64 e,.bool v]) (.agg #[.string s,.int .i64 a,.int .i64 b,.int .i64 c,.int .i64 d,.int .i64 e,.bool v])).run prog w=.ok (.bool false) w:=by go_simp
theorem Dq{M:List Nat}{l:List Int}{w:World}(hs:Sl Int w M A n c l):
 CB 152 #[.slice A n c,.slice A n c] (.bool true) w:=by
 refine wid ?_;have a:=hs.len;have h:=hs.small;have H:=Hd hs
 skip
 clear hs;refine ent func152 rfl ntmps152 ?_;gi_wp2;gi_loopw[5] (fun i wr=>∃k:Nat,k<=n/\i=.int .i64 k/\Below w w wr) (fun i _=>n-(intOf i).toNat);case atStart=>exact⟨0,bO _,rfl,bw _ _⟩
 case round=>
  obtain⟨k,g,rfl,hb⟩:=hrel;by_cases d:k<n;·obtain⟨b,o,y,rfl,f,-,-,-⟩:=(H.out.go hb).pR d;have v0:=ah f;exact Bo
  ·obtain rfl:k=n:=oE;clear g d a;gi_wp2;go_ret;exact⟨rfl,hb⟩
theorem zT{M:List Nat}{l:List bW}{w:World}(hs:Sl bW w M A n c l):
 CB 149 #[.slice A n c,.slice A n c] (.bool true) w:=by
 refine wid ?_;have a:=hs.len;have t:=hs.small;have H:=Hd hs;have u:=RG;clear hs;refine ent func149 rfl ntmps149 ?_;gi_wp2;gi_loopw[5] (fun i wr=>∃k:Nat,k<=n/\i=.int .i64 k/\Below w w wr) (fun i _=>n-(intOf i).toNat);case atStart=>exact⟨0,bO _,rfl,bw _ _⟩
 case round=>
  obtain⟨k,j,rfl,hb⟩:=hrel;by_cases g:k<n;·obtain⟨y,h⟩:=dW l k (by rw[a];exact g);obtain⟨b,o,m,rfl,f,d⟩:=(H.out.go hb).get h;obtain⟨rfl,-⟩:=aaJ f;have v0:=ah (show wr.cell? ⟨b,o+k*3,none⟩=some (.string y.1)from d.2 0 _ rfl);have v1:=ah (show wr.cell? ⟨b,o+k*3+1,none⟩=some (.int .i64 y.2.1)from d.2 1 _ rfl);have v2:=ah (show wr.cell? ⟨b,o+k*3+2,none⟩=some (.int .i64 y.2.2)from d.2 2 _ rfl);clear f d h;exact Bo
  ·obtain rfl:k=n:=oE;clear j g a;gi_wp2;go_ret;exact⟨rfl,hb⟩
def ahu(x:aU):Prop:=∀{y:aU}{M M':List Nat}{A B:Option Addr}{m c m' c':Nat}{w:World},Sl aU w M A m c x.l->Sl aU w M' B m' c' y.l->Calls prog 153 #[.agg #[.int .i64 x.kind,.string x.name,.int .i64 x.n,.int .i64 x.d,.slice A m c],.agg #[.int .i64 y.kind,.string y.name,.int .i64 y.n,.int .i64 y.d,.slice B m' c']] w fun e w'=>e=.returned (.bool (fE x y))/\Below w w w'
theorem He(x:aU):ahu x:=by
 induction x using iY with
 |_ x ih=>
 intro y M M' A B m c m' X w hs S;obtain⟨b,s1,h,j,f⟩:=x;obtain⟨P,s2,E,D,g⟩:=y;simp only[aU.kind,aU.name,aU.n,aU.d,aU.l]at hs S |-;refine wid ?_;obtain⟨W1,ag,F1⟩:=dR (((Fr.nil w).a w [.int .i64 b,.string s1,.int .i64 h,.int .i64 j,.slice A m c] 66).a (w+1) [.int .i64 P,.string s2,.int .i64 E,.int .i64 D,.slice B m' X] 66);have ab:=hs.len;have ac:=S.len;have ai:=hs.small;have HF:=Hd F1;refine op1 F1 ?_;intros;clear F1;by_cases Y:b=P;rotate_left;·have o:=Hd (show fE (.mk b s1 h j f) (.mk P s2 E D g)=false by rw[fE];simp[Y]);exact Bf
 subst Y;by_cases N:s1=s2;rotate_left;·have o:=Hd (show fE (.mk b s1 h j f) (.mk b s2 E D g)=false by rw[fE];simp[N]);have ne:=str_eq N;clear hs S;refine ent func153 rfl ntmps153 ?_;gi_wp2;go_ret;exact⟨by rw[o.out];first|rfl|simp,HF.out.bl⟩
 subst N;by_cases e3:h=E;rotate_left;·have o:=Hd (show fE (.mk b s1 h j f) (.mk b s1 E D g)=false by rw[fE];simp[e3]);exact Bf
 subst e3;by_cases e4:j=D;rotate_left;·have o:=Hd (show fE (.mk b s1 h j f) (.mk b s1 h D g)=false by rw[fE];simp[e4]);exact Bf
 subst e4;by_cases e5:m=m';rotate_left;·have o:=Hd (show fE (.mk b s1 h j f) (.mk b s1 h j g)=false by rw[fE];simp[yX (show f.length≠g.length by omega)]);exact Bf
 subst e5;have U:=Hd (show fE (.mk b s1 h j f) (.mk b s1 h j g)=fQ f g by rw[fE];simp);have IH:Hid (∀z,z∈f->ahu z):=ih;have H:=Hd2 hs S;have HL:=Hd2 ab ac;have Un:=Hd (show fQ (f.drop 0) (g.drop 0)=fQ f g by simp);clear hs S ab ac ih;refine ent func153 rfl ntmps153 ?_;gi_wp2;gi_loopw[5] (fun i wr=>∃k:Nat,k<=m/\i=.int .i64 k/\Hid (fQ (f.drop k) (g.drop k)=fQ f g)/\Hid (Fr w wr [(w, [.int .i64 b,.string s1,.int .i64 h,.int .i64 j,.slice A m c]),(w+1, [.int .i64 b,.string s1,.int .i64 h,.int .i64 j,.slice B m X])])) (fun i _=>m-(intOf i).toNat);case atStart=>exact⟨0,bO _,rfl,Un,HF⟩
 case round=>
  obtain⟨k,hk,rfl,G,t⟩:=hrel;have o1:=aW t.out;by_cases J:k<m
  ·obtain⟨x,F⟩:=dW f k (by rw[HL.a];exact J);obtain⟨y,O⟩:=dW g k (by rw[HL.u];exact J);have ad:=Dc F O;obtain⟨b1,aj,B1,m1,c1,rfl,⟨p0,p1,p2,p3,p4⟩,-,hs1⟩:=(H.a.go t.out.bl).qQ F;obtain⟨b2,al,B2,m2,c2,rfl,⟨q0,q1,q2,q3,q4⟩,-,hs2⟩:=(H.u.go t.out.bl).qQ O;have a0:=ah p0;have a1:=ah p1;have a2:=ah p2;have a3:=ah p3;have a4:=ah p4;have b0:=ah q0;have ae:=ah q1;have af:=ah q2;have b3:=ah q3;have b4:=ah q4;have v1:=ah (t.out.aQ 0 4);have v2:=ah (t.out.aQ 1 4);obtain⟨q,L⟩:=aC (fE x y);have T:=Hd (IH.out x (aR F) (y:=y) (hs1.go pd.drew) (hs2.go pd.drew));rw[L]at T;have Z:=Hd2 L ad;clear F O ad hs1 hs2 L;cases q
   all_goals
    gi_wp2;refine ak [] [0,1,2,3,4,5,6,7,8,9,10,11] oF oF ?_;refine eH ?_;refine aH fun K hK=>aA rfl rfl wy fun K' aa=>?_;gi_wp2;refine Cl 153 T.out ?_;rintro e w2 ⟨rfl,I⟩;have Q:=Hd (t.out.drew.go I);refine aa _ _ ⟨?_,hK _ _ ?_⟩;clear aa K' hK K;·exact a_ I _
    clear I;refine lit ?_;refine eH ?_;refine aK ?_;refine lit ?_;gi_wp2
   ·go_ret;exact⟨by rw[U.out,<-G.out,Z.u,Z.a];rfl,Q.out.bl⟩
   exact⟨⟨k+1,oE,by go_num,Hd (by rw[<-G.out,Z.u,Z.a,ff]),Q⟩,by simp[intOf];omega⟩
  ·obtain rfl:k=m:=oE;have HE:=Hd (show fQ f g=true by rw[<-G.out,cA (by rw[HL.a];exact bh _),cA (by rw[HL.u];exact bh _),fQ]);clear hk J;gi_wp2;go_ret;exact⟨by rw[U.out,HE.out];rfl,t.out.bl⟩
end
def vw(ts:List dA):Nat->Nat->Bool
 |0,_=>true
 |t+1,i=>match ts[i]? with
  |none=>false
  |some x=>x.2.any fun(k:bK)=>decide (k.1=5)&&vw ts t k.2.2.toNat
def KJ(ts:List dA):Nat->Nat->Nat
 |0,_=>0
 |t+1,i=>match ts[i]? with
  |none=>0
  |some x=>min ((x.2.map fun(k:bK)=>if k.1=5 then KJ ts t k.2.2.toNat else 1).sum) 33
theorem KL(ts:List dA):∀(t i:Nat),vw ts (t+1) i=true->vw ts t i=true
 |0,_,_=>rfl
 |t+1,i,h=>by
  unfold vw at h |-
  cases e:ts[i]? with
  |none=>rw[e]at h;cases h
  |some x=>rw[e]at h;simp only[iz,cJ]at h |-;obtain⟨k,hk,h5,hc⟩:=h;exact⟨k,hk,h5,KL ts t _ hc⟩
theorem agc(ts:List dA){s t i:Nat}(h:s<=t)(hc:vw ts t i=true):vw ts s i=true:=by
 induction h with
 |refl=>exact hc
 | @step m _ ih=>exact ih (KL ts m i hc)
theorem KN(ts:List dA)(i:Nat):∀n,vw ts n i=false->∃m,m<n/\vw ts m i=true/\vw ts (m+1) i=false
 |0,h=>by cases h
 |n+1,h=>by
  cases e:vw ts n i with
  |true=>exact⟨n,eS n,e,h⟩
  |false=>obtain⟨m,a,b⟩:=KN ts i n e;exact⟨m,oE,b⟩
theorem Ql{α:Type}{f g:α->Nat}(h:∀x,f x=min (g x) 33):∀l:List α,min ((l.map f).sum) 33=min ((l.map g).sum) 33
 | []=>rfl
 |x::l=>by have:=Ql h l;have:=h x;simp only[fg,mf];omega
theorem Vl(ts:List dA):∀(t i:Nat),KJ ts t i=min (RI ts t i).length 33
 |0,_=>rfl
 |t+1,i=>by
  unfold KJ RI
  cases e:ts[i]? with
  |none=>rfl
  |some x=>
   simp only;rw[List.length_flatMap];refine Ql (fun k=>?_) _;by_cases h5:k.1=5;·rw[if_pos h5,if_pos h5,Vl ts t]
   ·rw[if_neg h5,if_neg h5];simp
theorem Hf{r:aS}{rk:Nat->Nat}(hr:∀i t,r.ties[i]?=some t->∀k,k∈t.2->k.1=5->∃u:Nat,k.2.2=(u:Int)/\u<r.ties.length/\rk u<rk i):∀(f g i:Nat),i<r.ties.length->rk i<f->rk i<g->RI r.ties f i=RI r.ties g i
 |0,_,_,_,a,_=>by omega
 |_,0,_,_,_,a=>by omega
 |f+1,g+1,i,hi,a,b=>by
  unfold RI;have ht:r.ties[i]?=some r.ties[i]:=bX hi;rw[ht];apply vV;intro k hk;by_cases h5:k.1=5;·obtain⟨u,e,hu,hlt⟩:=hr i _ ht k hk h5;rw[if_pos h5,if_pos h5,e];exact Hf hr f g u hu oE oE
  rw[if_neg h5,if_neg h5]
theorem agd{r:aS}(hf:r.ties.length<=16)(hk:∀t,t∈r.ties->t.2.length<=32)(href:∀t,t∈r.ties->∀k,k∈t.2->k.1=5->∃u:Nat,k.2.2=(u:Int)/\u<r.ties.length)
 (hc:∀i,i<r.ties.length->vw r.ties r.ties.length i=false) (hm:∀i,i<r.ties.length->KJ r.ties r.ties.length i<=32):∃rk,T16 r rk/\∀i,i<r.ties.length->rk i<r.ties.length:=by
 have d:∀i,∃m,i<r.ties.length->m<r.ties.length/\vw r.ties m i=true/\vw r.ties (m+1) i=false:=fun i=>by
  by_cases f:i<r.ties.length;·obtain⟨m,h⟩:=KN r.ties i _ (hc i f);exact⟨m,fun _=>h⟩
  exact⟨0,fun h=>absurd h f⟩
 have o:∀i t,r.ties[i]?=some t->∀k,k∈t.2->k.1=5->∃u:Nat,k.2.2=(u:Int)/\u<r.ties.length/\(d u).choose<(d i).choose:=fun i t S k j K=>by
  have f:=(bj.1 S).1;obtain⟨u,e,x⟩:=href t (aR S) k j K;refine⟨u,e,x,?_⟩;obtain⟨-,a,-⟩:=(d u).choose_spec x;obtain⟨-,-,b⟩:=(d i).choose_spec f;rcases lh (d u).choose (d i).choose with g|g;·exact g
  have c:vw r.ties ((d u).choose+1) i=true:=by unfold vw;rw[S];simp only[iz,cJ];exact⟨k,j,cw K,by rw[e];exact a⟩
  have:=agc r.ties (show(d i).choose+1<=(d u).choose+1 by omega) c;rw[b]at this;cases this
 refine⟨fun i=>(d i).choose,⟨hf,hk,o,fun i f=>?_,fun i f=>?_⟩,fun i f=>((d i).choose_spec f).1⟩;·have:=((d i).choose_spec f).1;show(d i).choose<16;omega
 ·have y:=((d i).choose_spec f).1;have z:=hm i f;rw[Vl]at z;have D:=Hf o 16 r.ties.length i f (by show(d i).choose<16;omega) y;show(RI r.ties 16 i).length<=32;rw[D];omega
theorem agf{r:aS}{rk:Nat->Nat}(hf:r.ties.length<=5)(hk:∀t,t∈r.ties->t.2.length<=4)(h:T16 r rk/\∀i,i<r.ties.length->rk i<r.ties.length):T15 r rk:=⟨hf,hk,h.1.ref,fun i hi=>cf (h.2 i hi) hf,h.1.len⟩
section
open Go.RowKit Go.Shelf
attribute [local go_sem] cK
theorem Ot{n t:ByteArray}{q c VD no2:Int}{a b:Bool}{e1 e2:aU}{M:List Nat}{m c1 m' c2:Nat}{w:World}(h1:Sl aU w M A m c1 e1.l)(h2:Sl aU w M' B m' c2 e2.l):
 Calls prog 151 #[.agg #[.string n,.int .i64 p,.int .i64 q,.int .i64 c,.bool a,.bool b,.int .i64 e1.kind,.string e1.name,.int .i64 e1.n,.int .i64 e1.d,.slice A m c1,.string t,.int .i64 VD],.agg #[.string n,.int .i64 p,.int .i64 q,.int .i64 c,.bool a,.bool b,.int .i64 e2.kind,.string e2.name,.int .i64 e2.n,.int .i64 e2.d,.slice B m' c2,.string t,.int .i64 no2]] w fun e w'=>e=.returned (.bool (decide (VD=no2)&&fE e1 e2))/\Below w w w':=by
 refine wid ?_;obtain⟨o,h⟩:=aC (decide (VD=no2)&&fE e1 e2);rw[h];have HZ:=Hd h;clear h;obtain⟨W1,u,F1⟩:=dR (((Fr.nil w).a w [.string n,.int .i64 p,.int .i64 q,.int .i64 c,.bool a,.bool b,.int .i64 e1.kind,.string e1.name,.int .i64 e1.n,.int .i64 e1.d,.slice A m c1,.string t,.int .i64 VD] 68).a (w+1) [.string n,.int .i64 p,.int .i64 q,.int .i64 c,.bool a,.bool b,.int .i64 e2.kind,.string e2.name,.int .i64 e2.n,.int .i64 e2.d,.slice B m' c2,.string t,.int .i64 no2] 68);have x:=aW F1;have HF:=Hd F1;have i:=Hd (He e1 (y:=e2) (h1.go F1.bl) (h2.go F1.bl));clear F1;by_cases hno:VD=no2
 ·subst hno;obtain⟨z,g⟩:=aC (fE e1 e2);rw[g]at i;have f:=Hd (show o=z by rw[<-HZ.out,g];simp);clear h1 h2 g;refine ent func151 rfl ntmps151 ?_
  gi_wp2_with (first
   |(refine Cl 153 i.out ?_;rintro e D ⟨rfl,j⟩;have HB:=Hd (HF.out.bl.trans (j.mono HF.out.bl.size));clear j)
   |fail)
  go_ret;exact⟨by rw[f.out];rfl,HB.out⟩
 ·have f:=Hd (show o=false by rw[<-HZ.out,cE hno];rfl);clear h1 h2;refine ent func151 rfl ntmps151 ?_;gi_wp2_with (first|(refine⟨bq,?_⟩))
  go_ret;exact⟨by rw[f.out];first|rfl|simp,HF.out.bl⟩
theorem Hl{r:aS}{M:List Nat}{d:Nat}{w:World}(h1:Sl dA w M A n c (r.ties.map (yV r)))(h2:Sl dA w M' B n d r.ties):
 CB 150 #[.slice A n c,.slice B n d] (.bool (r.ties.all fun t=>t.2.all (xU r))) w:=by
 refine wid ?_;have hn:=h2.len;have am:=h2.small;have H:=fB h1 h2 hn;have kq:=Qd;clear h1 h2 hn;refine ent func150 rfl ntmps150 ?_;gi_wp2;gi_loopw[5] (fun i wr=>∃k:Nat,k<=n/\i=.int .i64 k/\Hid (((r.ties.drop k).all fun t=>t.2.all (xU r))=r.ties.all fun t=>t.2.all (xU r))/\Hid (Below w w wr)) (fun i _=>n-(intOf i).toNat);case atStart=>exact⟨0,bO _,rfl,Hd rfl,Hd pd⟩
 case round=>
  obtain⟨k,hk,rfl,N,f⟩:=hrel;obtain⟨V,rfl⟩:∃V,V=wr:=⟨_,rfl⟩;by_cases ae:k<n
  ·obtain⟨t,E⟩:=dW r.ties k (by rw[H.v];exact ae);have aa:(r.ties.map (yV r))[k]?=some (yV r t):=by rw[cP,E];rfl
   have S:=iC (P:=fun t:dA=>t.2.all (xU r)) E;obtain⟨b1,o1,B1,m1,c1,rfl,⟨K,o⟩,hk1⟩:=(H.a.go f.out).n_ aa;obtain⟨b2,o2,B2,J,c2,rfl,⟨U,x⟩,hk2⟩:=(H.b.go f.out).n_ E;have e0:(yV r t).1=t.1:=rfl;have e1:(yV r t).2=t.2.map (iW (dP r) (dQ r) (jF r)):=rfl;rw[e0]at K;rw[e1]at hk1;have l1:=hk1.len;have I:=hk2.len;rw[cC,I]at l1;subst l1;obtain⟨nm,af⟩:=aC t.1;obtain⟨G,ac⟩:=aC t.2;rw[af]at K U;rw[ac]at hk1 hk2 I S;have a0:=ah K;have a1:=ah o;have b0:=ah U;have aj:=ah x;have al:=hk2.small;have g:=h_ hk1 hk2 I S;have HP:=Hd2 o x;clear E aa S hk1 hk2 e0 e1 af ac I K o U x;gi_wp2;refine ak [] [0,1,2,3,4,5,6,7,8,9,10,11,12,13,14,15,16,17,18,19,20,21,22,23,24,25] oF oF ?_;refine eH ?_;refine aK ?_;refine lit ?_;gi_wp2;gi_loopw[6] (fun i wr=>∃j:Nat,j<=J/\i=.int .i64 j/\Hid ((G.drop j).all (xU r)=G.all (xU r))/\Hid (Below V V wr)) (fun i _=>J-(intOf i).toNat);case atStart=>exact⟨0,bO _,rfl,Hd rfl,Hd pd.drew⟩
   case round=>
    obtain⟨j,hj,rfl,O,m⟩:=hrel;have o:=(a_ m.out []).cell oO HP.a;have x:=(a_ m.out []).cell oO HP.u;by_cases ad:j<J
    ·obtain⟨y,F⟩:=dW G j (by rw[g.c];exact ad);have ai:(G.map (iW (dP r) (dQ r) (jF r)))[j]?=some (iW (dP r) (dQ r) (jF r) y):=by rw[cP,F];rfl
     have ag:=iC (P:=xU r) F;obtain⟨b3,o3,rfl,X,Y,Z⟩:=(g.a.go m.out).xQ ai;obtain⟨b4,o4,rfl,y0,y1,y2⟩:=(g.b.go m.out).xQ F;obtain⟨z,T⟩:=aC (iW (dP r) (dQ r) (jF r) y);rw[T]at X Y Z;have g1:=ah o;have g2:=ah x;have f0:=ah X;have f1:=ah Y;have f2:=ah Z;have f3:=ah y0;have f4:=ah y1;have f5:=ah y2;obtain⟨e,Q⟩:=aC (decide (z=y));have kz:=fun w=>kq z y w;rw[Q]at kz;have D:=Hd2 ag (show xU r y=e by rw[xU,T];exact Q);have ab:=Hd (m.out.drew);clear F ai ag T X Y Z y0 y1 y2 Q kq;cases e
     all_goals
      gi_wp2;refine aP [] 17 oF oF ?_;refine ay 0 ?_;refine ay 1 ?_;refine ay 2 ?_;refine ay 3 ?_;refine ay 4 ?_;refine ay 5 ?_;refine ay 6 ?_;refine ay 7 ?_;refine ay 8 ?_;refine ay 9 ?_;refine ay 10 ?_;refine ay 11 ?_;refine ay 12 ?_;refine ay 13 ?_;refine ay 14 ?_;refine ay 15 ?_;refine ay 16 ?_;refine iq 0 ?_;refine dC _ ?_;simp only[cu];gi_wp2
     ·go_ret;exact⟨by rw[<-N.out,g.w,<-O.out,D.a,D.u];simp,f.out.trans (ab.out.mono f.out.size)⟩
     exact⟨⟨j+1,oE,by go_num,Hd (by rw[<-O.out,D.a,D.u,ff]),ab⟩,by simp[intOf];omega⟩
    ·obtain rfl:j=J:=oE;have L:=Hd (show((r.ties.drop (k+1)).all fun t=>t.2.all (xU r))=r.ties.all fun t=>t.2.all (xU r) by
      have h:=O.out;rw[jr (by rw[g.c];exact bh _)]at h;have h2:=g.w;rw[N.out,<-h,ff]at h2;exact h2.symm)
     clear hj ad;gi_wp2;exact⟨⟨k+1,oE,by go_num,L,Hd (f.out.trans (m.out.mono f.out.size))⟩,by simp[intOf];omega⟩
  ·obtain rfl:k=n:=oE;have L:=Hd (show(r.ties.all fun t=>t.2.all (xU r))=true by rw[<-N.out,jr (by rw[H.v];exact bh _)]);clear hk ae;gi_wp2;go_ret;exact⟨by rw[L.out];rfl,f.out⟩
end
