/- Lemmas. -/
import Derived.Test.YtfdmnogfflcllaaGreatDoorM41
import Derived.Test.YtfdmnogfflcllaaGreatDoorM47
set_option linter.unusedVariables false
set_option linter.unusedSimpArgs false
set_option maxRecDepth 100000
set_option maxHeartbeats 20000000
namespace Go.Proofs.YtfdmnogfflcllaaGreatDoor
open Go.Proofs.Tryz
theorem zL{p:Prop}(h:p:=by
 rintro e' w3 ⟨u,rfl,S,D⟩;have C:=I.out.drew.trans (D.mono I.out.drew.size);have N:=Hd (aad pf S (HQ.out.go C).qw HY.a.ok H.w.ok (uQ HY.a H.w oE));rw[E.a]at N;have J:=Hd C;refine m _ _ ⟨?_,g _ _ ?_⟩;clear m B g K;·exact a_ D _
 clear D S C;refine lit ?_;refine eH ?_;refine aH fun K g=>aA rfl rfl wy fun B m=>?_;gi_wp2;refine Cl 35 N.out ?_;rintro e' w4 ⟨rfl,hb4⟩;have U:=Hd (J.out.trans (hb4.mono J.out.size));refine m _ _ ⟨?_,g _ _ ?_⟩;clear m B g K;·exact a_ hb4 _
 clear hb4;refine lit ?_;refine eH ?_;refine aK ?_;refine lit ?_;gi_wp2;exact⟨⟨k+1,oE,by go_num,by rw[HY.b,V.out,HY.v,E.a,E.u,cE (show ¬0<z by omega)];rfl,U⟩,by simp[intOf];omega⟩):p:=h
theorem zM{p:Prop}(h:p:=by
 rintro e' w3 ⟨u,rfl,S,D⟩;have C:=I.out.drew.trans (D.mono I.out.drew.size);have N:=Hd (aad pf S (HQ.out.go C).qw HY.a.ok H.w.ok (uQ HY.a H.w oE));rw[E.a]at N;have J:=Hd C;refine m _ _ ⟨?_,g _ _ ?_⟩;clear m B g K;·exact a_ D _
 clear D S C;refine lit ?_;refine eH ?_;refine aH fun K g=>aA rfl rfl wy fun B m=>?_;gi_wp2;refine Cl 35 N.out ?_;rintro e' w4 ⟨rfl,hb4⟩;have U:=Hd (J.out.trans (hb4.mono J.out.size));refine m _ _ ⟨?_,g _ _ ?_⟩;clear m B g K;·exact a_ hb4 _
 clear hb4;refine lit ?_;refine eH ?_;refine aK ?_;refine lit ?_;gi_wp2;exact⟨⟨k+1,oE,by go_num,by rw[HY.b,V.out,HY.v,E.a,E.u,cw ad];rfl,U⟩,by simp[intOf];omega⟩):p:=h
theorem Bj{p:Prop}(h:p:=by
 gi_wp2;obtain⟨O,z,C,D,E,G,hQ,h⟩:=nN (M:=M) (F.out.aQ 1 0) (F.out.aQ 1 1) (F.out.aQ 1 2) (F.out.aQ 1 3) (x:=y) Z.out.num.sl Z.out.den.sl Z.out.num.neg Z.out.den.neg F.out.bl (iH _);try rw[z]
 exact⟨rfl,.agg #[.bool p,.slice A1 n1 c1,.bool q,.slice g B m],by simp[results,go_sem,C,D,E,G],_,rfl,hQ,h⟩):p:=h
theorem BM{p:Prop}(h:p:=by subst Y;have g1:((k:Int)!=(k:Int))=false:=oO;gi_wp2;refine ak [] [0,1,2,3,4,5,7,6,8,9,10] oF oF ?_;refine eH ?_;refine aK ?_;refine lit ?_;gi_wp2;exact⟨⟨k+1,oE,by go_num,by rw[HY.b,V.out];simp,Hd I.out.drew⟩,by simp[intOf];omega⟩):p:=h
theorem O4{p:Prop}(h:p:=by obtain rfl:k=n:=oE;have hE:=HZ.out;rw[R]at hE;subst hE;clear R ae aQ;gi_wp2;go_ret;exact⟨rfl,O.out⟩):p:=h
theorem Xd{p:Prop}(h:p:=by have h:=gM (fun z=>z[k]?) H.b;simp only[cP,hy,T,fY,me]at h;exact h):p:=h
variable {s:dK}{j i lo id:Nat}{v:Value}{f:Nat→Bool}{a:Act}{d:Option Tmp}
section
open Go.RowKit Go.Shelf
attribute [local go_sem] cK
abbrev adu(t1 t2 t3 t4 s:dK):List Value:= [.slice t1.A t1.n t1.c,.slice t2.A t2.n t2.c,.slice t3.A t3.n t3.c,.slice t4.A t4.n t4.c,.slice s.A s.n s.c]
section
variable {M:List Nat}{A:Option Addr}{n c:Nat}{l:List Rt}{t1 t2 t3 t4:dK}{y:Rt}{w:World}
theorem afd(hs:SlR w M A n c l)(hy:l[0]?=some y):
 Calls prog 36 #[.agg (adu t1 t2 t3 t4 ⟨A,n,c⟩).toArray] w fun e w'=>∃u,e=.returned u/\QW w' M u y/\Below w w w':=by
 refine wid ?_;have t:l.length=n:=by have:=hs.len;rwa [cC]at this
 have K:=hs.small;have I:0<n:=by have:=(bj.1 hy).1;omega
 have L:IntKind.i64.wrap ((n:Int)-1)=((n-1:Nat):Int):=by rw[bR];omega
 have J:n-1<n:=oE;obtain⟨W1,H,F1⟩:=dR (((Fr.nil w).a w (adu t1 t2 t3 t4 ⟨A,n,c⟩) 85).a (w+1) [.bool false,.slice none 0 0,.bool false,.slice none 0 0] 48);have N:=aW F1;have F:=Hd F1;obtain⟨b,o,p,q,A1,n1,c1,g,B,m,rfl,⟨v0,v1,v2,v3⟩,qc⟩:=((hs.more (b:=w+1) (iH _)).go F1.bl).adn hy;try simp only[fN,ed]at v0 v1 v2 v3
 have Z:=Hd qc;clear hs qc F1 t hy;refine ent func36 rfl ntmps36 ?_;exact Bj
theorem afe(hs:SlR w M A n c l)(hy:l[n-1]?=some y):
 Calls prog 37 #[.agg (adu t1 t2 t3 t4 ⟨A,n,c⟩).toArray] w fun e w'=>∃u,e=.returned u/\QW w' M u y/\Below w w w':=by
 refine wid ?_;have t:l.length=n:=by have:=hs.len;rwa [cC]at this
 have K:=hs.small;have I:0<n:=by have:=(bj.1 hy).1;omega
 have L:IntKind.i64.wrap ((n:Int)-1)=((n-1:Nat):Int):=by rw[bR];omega
 have J:n-1<n:=oE;obtain⟨W1,H,F1⟩:=dR (((Fr.nil w).a w (adu t1 t2 t3 t4 ⟨A,n,c⟩) 85).a (w+1) [.bool false,.slice none 0 0,.bool false,.slice none 0 0] 48);have N:=aW F1;have F:=Hd F1;obtain⟨b,o,p,q,A1,n1,c1,g,B,m,rfl,⟨v0,v1,v2,v3⟩,qc⟩:=((hs.more (b:=w+1) (iH _)).go F1.bl).adn hy;try simp only[fN,ed]at v0 v1 v2 v3
 have Z:=Hd qc;clear hs qc F1 t hy;refine ent func37 rfl ntmps37 ?_;exact Bj
end
abbrev OpP:=aM×List fC
theorem Sl.ag7{w:World}{M:List Nat}{A:Option Addr}{n c k:Nat}{l:List OpP}{x:OpP}(h:Sl OpP w M A n c l)(hk:l[k]?=some x):∃b o,∃t1 t2 t3 t4 s:dK,A=some ⟨b,o,none⟩/\
 (w.cell? ⟨b,o+k*5,none⟩=some t1.v/\w.cell? ⟨b,o+k*5+1,none⟩=some t2.v/\w.cell? ⟨b,o+k*5+2,none⟩=some t3.v/\w.cell? ⟨b,o+k*5+3,none⟩=some t4.v/\w.cell? ⟨b,o+k*5+4,none⟩=some s.v)/\jE w M (toC x.1) t1 t2 t3 t4/\Sl fC w M s.A s.n s.c x.2:=by
 obtain⟨b,o,z,rfl,m,g⟩:=h.get hk;obtain⟨c1,u,rfl,I,A,n,c,rfl,hs⟩:=m;obtain⟨t1,t2,t3,t4,rfl,t⟩:=aaK I;exact⟨b,o,t1,t2,t3,t4,⟨A,n,c⟩,rfl,⟨g.2 0 _ rfl,g.2 1 _ rfl,g.2 2 _ rfl,g.2 3 _ rfl,g.2 4 _ rfl⟩,t,hs⟩
def acA(g:List Rt->Rt)(all:List (List Rt))(e:Nat)(x:Rt)(k:Nat):Nat:=(List.range k).countP fun i=>decide (i≠e)&&decide (0<rW (g (all.getD i [])) x)
theorem ad4(g:List Rt->Rt)(all:List (List Rt))(e:Nat)(x:Rt)(k:Nat):acA g all e x k<=k:=by
 have:=List.countP_le_length (p:=fun i=>decide (i≠e)&&decide (0<rW (g (all.getD i [])) x)) (l:=List.range k)
 rwa [fR]at this
theorem acQ{g:List Rt->Rt}{all:List (List Rt)}{e k:Nat}{x:Rt}:acA g all e x (k+1)=acA g all e x k+if(decide (k≠e)&&decide (0<rW (g (all.getD k [])) x))=true then 1 else 0:=by unfold acA;rw[nF,List.countP_append,List.countP_singleton]
def aff(ls:List (List Rt)):Prop:=∀l,l∈ls->l≠ []/\∀y,y∈l->yx y 300
theorem ad5{l:List Rt}(h:l≠ []):l[0]?=some (ax l):=by have:=e_.2 h;unfold ax;rw[cx,bX this];rfl
theorem last_at{l:List Rt}{n:Nat}(h:l≠ [])(hn:l.length=n):l[n-1]?=some (az l):=by subst hn;have:=e_.2 h;unfold az;rw[cx,bX (show l.length-1<l.length by omega)];rfl
section
variable {A:Option Addr}{n c:Nat}{os:List OpP}{ls:List (List Rt)}{e:Nat}{x:Rt}{w:World}{ba be bx:Nat}{p q:Bool}{A1 B1:Option Addr}{n1 c1 m1 d1:Nat}
theorem aes(hs:Sl OpP w [] A n c os)(hos:os.map (·.2)=ls.map (fun l=>l.map jd))(hls:aff ls)(hx:yx x 300)(hn:n<=4096)(ca:w.cell? ⟨ba,0,none⟩=some (.slice A n c))(ce:w.cell? ⟨be,0,none⟩=some (.int .i64 e))
 (x0:w.cell? ⟨bx,0,none⟩=some (.bool p)) (x1:w.cell? ⟨bx,1,none⟩=some (.slice A1 n1 c1)) (x2:w.cell? ⟨bx,2,none⟩=some (.bool q)) (x3:w.cell? ⟨bx,3,none⟩=some (.slice B1 m1 d1)) (qx:QC w [] x p q A1 n1 c1 B1 m1 d1):
 Calls prog 34 #[.func (.func 36) #[] #[],.pointer (some ⟨ba,0,none⟩),.pointer (some ⟨be,0,none⟩),.pointer (some ⟨bx,0,none⟩)] w fun e' w'=>e'=.returned (.int .i64 (aaw ax ls e x:Nat))/\Below w w w':=by
 refine wid ?_;have ac:os.length=n:=hs.len;have ab:ls.length=n:=by rw[<-ac];have:=gM List.length hos;simpa using this.symm
 obtain⟨Z,W⟩:=aC (aaw ax ls e x);rw[W];have H:=h_ hs hos hls hx;have HQ:=Hd qx;have HL:=Hd2 ac ab;have HZ:=Hd (show acA ax ls e x n=Z by rw[<-W,<-ab];rfl);have L:=Zw ca ce x0 x1 x2 x3;clear hs hos hls hx qx ac ab W;refine ent func34 rfl ntmps34 ?_;gi_wp2;clear ca ce x0 x1 x2 x3;gi_loopw[5,10] (fun a i wr=>∃k:Nat,k<=n/\i=.int .i64 k/\a=.int .i64 (acA ax ls e x k:Nat)/\Hid (Below w w wr)) (fun _ i _=>n-(intOf i).toNat);case atStart=>exact⟨0,bO _,rfl,rfl,Hd pd⟩
 case round=>
  obtain⟨k,hk,rfl,rfl,O⟩:=hrel;have aQ:=fun{b o:Nat}{v:Value}(h:w.cell? ⟨b,o,none⟩=some v)=>(O.out.cell (bu w _ h)).trans h;have ae:=ad4 ax ls e x k;obtain⟨kk,R⟩:=aC (acA ax ls e x k);rw[R]at ae |-;by_cases ai:k<n
  ·obtain⟨y,hy⟩:=dW os k (by rw[HL.a];exact ai);obtain⟨l,T⟩:=dW ls k (by rw[HL.u];exact ai);obtain⟨aa,ag⟩:=H.c l (aR T);have aj:y.2=l.map jd:=by
    exact Xd
   obtain⟨b,o,t1,t2,t3,t4,s,rfl,⟨v0,v1,v2,v3,v4⟩,-,hsl⟩:=(H.a.go O.out).ag7 hy;rw[aj]at hsl;obtain⟨As,ns,cs⟩:=s;have am:l.length=ns:=by have:=hsl.len;rwa [cC]at this
   simp only[dK.v]at v0 v1 v2 v3 v4;obtain⟨W2,al,X,t⟩:=fP (w:=wr) ((Fr.nil wr).a wr (adu t1 t2 t3 t4 ⟨As,ns,cs⟩) 85);have o2:=aW t.drew;have G:=fun{b o:Nat}{v:Value}(h:w.cell? ⟨b,o,none⟩=some v)=>ah ((X.cell (bu wr _ (aQ h))).trans (aQ h));have ue:=G L.b;have u0:=G L.c;have u1:=G L.d;have u2:=G L.e;have u3:=G L.y;have af:ls.getD k []=l:=by rw[cx,T];rfl
   have z0:=ah (t.aQ 0 0);have z1:=ah (t.aQ 0 1);have z2:=ah (t.aQ 0 2);have z3:=ah (t.aQ 0 3);have z4:=ah (t.aQ 0 4);have HF:=Hd (afd (y:=ax l) (t1:=t1) (t2:=t2) (t3:=t3) (t4:=t4) (hsl.go X.drew) (ad5 aa));have HY:=fB (ag (ax l) (aR (show _=some _ from ad5 aa))) (@acQ ax ls e k x) af;have I:=Hd (O.out.trans (X.mono O.out.size));clear hy T hsl aa ag aj aQ G t af;have V:=Hd R;clear R;by_cases Y:k=e;·exact BM
   have g1:((k:Int)!=(e:Int))=true:=oS;have g3:decide (k≠e)=true:=cw Y;obtain⟨z,hz⟩:=aC (rW (ax l) x);have E:=Hd2 hz g3;have an:IntKind.i64.wrap ((kk:Int)+1)=((kk+1:Nat):Int):=by rw[bR];omega
   clear hz g3 Y;by_cases ad:0<z;·have g2:decide (z>0)=true:=cw ad;gi_wp2;refine ak [] [0,1,2,3,4,5,7,6,8,9,10] oF oF ?_;refine eH ?_;refine aH fun K g=>aA rfl rfl wy fun B m=>?_;gi_wp2;refine Cl 36 HF.out ?_;exact zM
   have g2:decide (z>0)=false:=cE ad;gi_wp2;refine ak [] [0,1,2,3,4,5,7,6,8,9,10] oF oF ?_;refine eH ?_;refine aH fun K g=>aA rfl rfl wy fun B m=>?_;gi_wp2;refine Cl 36 HF.out ?_;exact zL
  ·exact O4
theorem aeu(hs:Sl OpP w [] A n c os)(hos:os.map (·.2)=ls.map (fun l=>l.map jd))(hls:aff ls)(hx:yx x 300)(hn:n<=4096)(ca:w.cell? ⟨ba,0,none⟩=some (.slice A n c))(ce:w.cell? ⟨be,0,none⟩=some (.int .i64 e))
 (x0:w.cell? ⟨bx,0,none⟩=some (.bool p)) (x1:w.cell? ⟨bx,1,none⟩=some (.slice A1 n1 c1)) (x2:w.cell? ⟨bx,2,none⟩=some (.bool q)) (x3:w.cell? ⟨bx,3,none⟩=some (.slice B1 m1 d1)) (qx:QC w [] x p q A1 n1 c1 B1 m1 d1):
 Calls prog 34 #[.func (.func 37) #[] #[],.pointer (some ⟨ba,0,none⟩),.pointer (some ⟨be,0,none⟩),.pointer (some ⟨bx,0,none⟩)] w fun e' w'=>e'=.returned (.int .i64 (aaw az ls e x:Nat))/\Below w w w':=by
 refine wid ?_;have ac:os.length=n:=hs.len;have ab:ls.length=n:=by rw[<-ac];have:=gM List.length hos;simpa using this.symm
 obtain⟨Z,W⟩:=aC (aaw az ls e x);rw[W];have H:=h_ hs hos hls hx;have HQ:=Hd qx;have HL:=Hd2 ac ab;have HZ:=Hd (show acA az ls e x n=Z by rw[<-W,<-ab];rfl);have L:=Zw ca ce x0 x1 x2 x3;clear hs hos hls hx qx ac ab W;refine ent func34 rfl ntmps34 ?_;gi_wp2;clear ca ce x0 x1 x2 x3;gi_loopw[5,10] (fun a i wr=>∃k:Nat,k<=n/\i=.int .i64 k/\a=.int .i64 (acA az ls e x k:Nat)/\Hid (Below w w wr)) (fun _ i _=>n-(intOf i).toNat);case atStart=>exact⟨0,bO _,rfl,rfl,Hd pd⟩
 case round=>
  obtain⟨k,hk,rfl,rfl,O⟩:=hrel;have aQ:=fun{b o:Nat}{v:Value}(h:w.cell? ⟨b,o,none⟩=some v)=>(O.out.cell (bu w _ h)).trans h;have ae:=ad4 az ls e x k;obtain⟨kk,R⟩:=aC (acA az ls e x k);rw[R]at ae |-;by_cases aj:k<n
  ·obtain⟨y,hy⟩:=dW os k (by rw[HL.a];exact aj);obtain⟨l,T⟩:=dW ls k (by rw[HL.u];exact aj);obtain⟨aa,ag⟩:=H.c l (aR T);have al:y.2=l.map jd:=by
    exact Xd
   obtain⟨b,o,t1,t2,t3,t4,s,rfl,⟨v0,v1,v2,v3,v4⟩,-,hsl⟩:=(H.a.go O.out).ag7 hy;rw[al]at hsl;obtain⟨As,ns,cs⟩:=s;have ai:l.length=ns:=by have:=hsl.len;rwa [cC]at this
   simp only[dK.v]at v0 v1 v2 v3 v4;obtain⟨W2,am,X,t⟩:=fP (w:=wr) ((Fr.nil wr).a wr (adu t1 t2 t3 t4 ⟨As,ns,cs⟩) 85);have o2:=aW t.drew;have G:=fun{b o:Nat}{v:Value}(h:w.cell? ⟨b,o,none⟩=some v)=>ah ((X.cell (bu wr _ (aQ h))).trans (aQ h));have ue:=G L.b;have u0:=G L.c;have u1:=G L.d;have u2:=G L.e;have u3:=G L.y;have af:ls.getD k []=l:=by rw[cx,T];rfl
   have z0:=ah (t.aQ 0 0);have z1:=ah (t.aQ 0 1);have z2:=ah (t.aQ 0 2);have z3:=ah (t.aQ 0 3);have z4:=ah (t.aQ 0 4);have HF:=Hd (afe (y:=az l) (t1:=t1) (t2:=t2) (t3:=t3) (t4:=t4) (hsl.go X.drew) (last_at aa ai));have HY:=fB (ag (az l) (aR (show _=some _ from last_at aa ai))) (@acQ az ls e k x) af;have I:=Hd (O.out.trans (X.mono O.out.size));clear hy T hsl aa ag al aQ G t af;have V:=Hd R;clear R;by_cases Y:k=e;·exact BM
   have g1:((k:Int)!=(e:Int))=true:=oS;have g3:decide (k≠e)=true:=cw Y;obtain⟨z,hz⟩:=aC (rW (az l) x);have E:=Hd2 hz g3;have an:IntKind.i64.wrap ((kk:Int)+1)=((kk+1:Nat):Int):=by rw[bR];omega
   clear hz g3 Y;by_cases ad:0<z;·have g2:decide (z>0)=true:=cw ad;gi_wp2;refine ak [] [0,1,2,3,4,5,7,6,8,9,10] oF oF ?_;refine eH ?_;refine aH fun K g=>aA rfl rfl wy fun B m=>?_;gi_wp2;refine Cl 37 HF.out ?_;exact zM
   have g2:decide (z>0)=false:=cE ad;gi_wp2;refine ak [] [0,1,2,3,4,5,7,6,8,9,10] oF oF ?_;refine eH ?_;refine aH fun K g=>aA rfl rfl wy fun B m=>?_;gi_wp2;refine Cl 37 HF.out ?_;exact zL
  ·exact O4
end
end
section
open Go.RowKit Go.Shelf
instance:kJ OpP:=⟨by
 intro w M x cs h u hu;obtain⟨c1,c2,rfl,hc,A,n,c,rfl,hs⟩:=h;obtain⟨t1,t2,t3,t4,rfl,hc2⟩:=aaK hc;simp[dK.v]at hu;rcases hu with rfl|rfl|rfl|rfl|rfl<;>rfl⟩
theorem aev:(prog.info? 85).map (fun i=>(i.zero,i.size,i.bytes))=some (some (.agg #[.slice none 0 0,.slice none 0 0,.slice none 0 0,.slice none 0 0,.slice none 0 0]),5,120):=oF
theorem adP:iU 85 (Rep.sz OpP):=iU.mk' aev rfl oE
theorem afI{w:World}{M:List Nat}{x:aM}{t1 t2 t3 t4:dK}{l:List fC}(h:jE w M (toC x) t1 t2 t3 t4)(hm:Sl (List Int) w M t1.A t1.n t1.c x.1)(hs:Sl fC w M s.A s.n s.c l):Rep.rd (α:=OpP) w M (x,l) (adu t1 t2 t3 t4 s):=⟨dI t1 t2 t3 t4, [s.v],rfl,acW h hm,s.A,s.n,s.c,rfl,hs⟩
theorem VbR.ag8{M:List Nat}{w u wr:World}{L:List (Nat×List Value)}{bl:Nat}{C:Value->List Value}{xs:List OpP}{y:aM}{l0 l:List fC}(h:VbR OpP 85 M w u L bl j C v xs wr)(hi:xs[i]?=some (y,l0))(hs:Sl fC wr (bP v++bl::M) s.A s.n s.c l):
 ∃g cap,v=.slice (some ⟨g,0,none⟩) xs.length cap/\g∉bl::M/\u.heap.size<=g/\(∃u0,wr.cell? ⟨g,i*5+4,none⟩=some u0/\wr.frozen? ⟨g,i*5+4,none⟩=false)/\VbR OpP 85 M w u L bl j C v (xs.set i (y,l)) (wr.setCell ⟨g,i*5+4,none⟩ s.v):=by
 have S:=(bj.1 hi).1;obtain⟨g,cap,rfl⟩:=qA h.own oE;obtain⟨B,R⟩:=h.own.lt (k:=g) rfl;have O:g∉bl::M:=fun m=>by
  rcases cB.1 m with rfl|m;·have:=h.hb;omega
  have:=h.bM g m;have:=h.wu;omega
 obtain⟨J,a,b⟩:=h.own.get hi;have t:=a;obtain⟨c1,G,rfl,I,A,n,c,rfl,T⟩:=t;obtain⟨t1,t2,t3,t4,rfl,K⟩:=aaK I;have E:=b 4 _ rfl;obtain⟨z,o⟩:=h.own.afv (k:=i) (j:=4) (x:=((y,l):OpP)) (us:= [s.v]) hi (show 4+1<=5 from bh 5) (fun J t=>by obtain⟨c1,G,rfl,I,A,n,c,rfl,-⟩:=t;obtain⟨t1,t2,t3,t4,rfl,K⟩:=aaK I;exact⟨dI t1 t2 t3 t4, [s.v],rfl,I,s.A,s.n,s.c,rfl,hs⟩) rfl;have H:fM wr g (i*Rep.sz OpP+4) [s.v]=wr.setCell ⟨g,i*5+4,none⟩ s.v:=rfl;rw[H]at z o;have kb:KB g wr (wr.setCell ⟨g,i*5+4,none⟩ s.v):=⟨o,by rw[<-H];exact aak (bh g) _ _ pd⟩;refine⟨g,cap,rfl,O,B,⟨_,E⟩,?_⟩;refine⟨by rw[fI];exact z,h.fr.kb kb (cD h.wu B) (fun c N m=>?_),cD h.sz o.size,h.wu,h.bM,h.hL,h.hb,h.hC,h.hS,⟨cD h.kp.size o.size,fun q D m=>(o.block q (cf D h.sz) (by rw[bE];omega)).trans (h.kp.block q D m)⟩⟩;rcases cR.1 m with m|m;·have:=(h.hL c N m).1;omega
 ·simp only[bE,eV]at m;have:=h.hb;omega
end
def aan(ls:List (List Rt))(e:Nat)(xs:List Rt)(n:Nat):Bool:=xs.any fun x=>decide (aaw ax ls e x+1<=n)&&decide (n<=aaw az ls e x+1)
def abC(f:Nat->Bool)(lo n k:Nat):Bool:=f k||(decide (lo+1<=k)&&decide (k<n+1))
def abk(q:Nat)(f:Nat->Bool):List Bool:=(List.range (q+1)).map f
theorem afJ{q k:Nat}(h:k<=q):(abk q f)[k]?=some (f k):=by unfold abk;rw[cP,gR oE];rfl
theorem afg{q:Nat}:(abk q f).length=q+1:=by simp[abk]
theorem aew{ls:List (List Rt)}{e q:Nat}:abk q (aan ls e [])=List.replicate (q+1) false:=by refine lB (by simp[abk]) fun i b g=>?_;simp[abk,aan]
theorem aex{q:Nat}:abk q (abC f lo lo)=abk q f:=by
 refine List.map_congr_left fun k _=>?_;unfold abC;by_cases h:lo+1<=k;·rw[cE (show ¬k<lo+1 by omega),Bool.and_false,mc]
 rw[cE h,mR,mc]
theorem aey{n q:Nat}(hn:lo<=n)(hq:n+1<=q):(abk q (abC f lo n)).set (n+1) true=abk q (abC f lo (n+1)):=by
 refine lB (by simp[abk]) fun i g b=>?_;have m:i<q+1:=by rw[afg]at b;exact b
 rw[List.getElem_set];simp only[abk,List.getElem_map,List.getElem_range,abC];by_cases h:n+1=i;·rw[if_pos h,cw (show lo+1<=i by omega),cw (show i<n+1+1 by omega)];simp
 rw[if_neg h];congr 2;exact decide_eq_decide.2 oE
theorem aez{ls:List (List Rt)}{e q:Nat}{xs:List Rt}{x:Rt}(hx:xs[i]?=some x):abk q (abC (aan ls e (xs.take i)) (aaw ax ls e x) (aaw az ls e x+1))=abk q (aan ls e (xs.take (i+1))):=by refine List.map_congr_left fun k _=>?_;unfold abC aan;rw[eo,hx,List.any_append];simp only[ja,gP,mq,mc];congr 2;exact decide_eq_decide.2 oE
theorem aeA{ls:List (List Rt)}{e q:Nat}(hq:ls.length=q):aay ls e=(List.range (q+1)).filter (aan ls e (ls.getD e [])):=by subst hq;rfl
def rkK(f:Nat->Bool)(k:Nat):List Int:=((List.range k).filter f).map Int.ofNat
theorem afh{k:Nat}:rkK f (k+1)=rkK f k++(if f k=true then [(k:Int)]else []):=by
 unfold rkK;rw[nF,List.filter_append,eO];congr 1;by_cases h:f k=true;·rw[if_pos h,gA h];rfl
 rw[if_neg h,gC h];rfl
theorem ad6{k:Nat}:(rkK f k).length<=k:=by
 unfold rkK;rw[cC];have:=List.length_filter_le f (List.range k)
 rwa [fR]at this
theorem afi{α β:Type}{f g:α->β}{os:List α}{y:α}(hy:os[j]?=some y):((os.take j).map f++(os.drop j).map g).set j (f y)=(os.take (j+1)).map f++(os.drop (j+1)).map g:=by
 obtain⟨b,rfl⟩:=bj.1 hy;have h:((os.take j).map f).length=j:=by rw[cC,cI];omega
 rw[cT b,fg,gS _ _ oE,h,ga,eQ,eo,hy,eO,d_];rfl
section
open Go.RowKit Go.Shelf
theorem adQ(N:Nat):madeCells (Value.bool false).cells (N*1)=(Array.replicate N (Value.bool false)):=by
 apply oB;·simp[madeCells]
 intro i b g;exact Ll
abbrev aa1(q:Nat)(f:Nat->Bool):List Value:=(abk q f).map Value.bool
theorem aeB{ls:List (List Rt)}{e q:Nat}:(aa1 q (aan ls e [])).toArray=Array.replicate (q+1) (Value.bool false):=by unfold aa1;rw[aew,List.map_replicate,List.toArray_replicate]
theorem ag9{q:Nat}(hq:q<=1000){ls:List (List Rt)}{e:Nat}(w:World):(Instr.makeSlice 54 (.int .i64 ((q:Int)+1)) (.int .i64 ((q:Int)+1))).run prog w=.ok (.slice (some ⟨w,0,none⟩) (q+1) (q+1)) (w.alloc (.cells (aa1 q (aan ls e [])).toArray 4)):=by obtain⟨o,b,g,h,m⟩:=kO RX;have:=run_make (P:=prog) w 54 4 o (.bool false) underlying54 b g .i64 .i64 ((q:Int)+1) ((q:Int)+1) oE (Int.le_refl _) (by rw[m];omega) oE;rw[this,h,aeB];have e:((q:Int)+1).toNat=q+1:=oE;simp only[e,adQ]
theorem ad7{q k:Nat}(h:k<=q):(aa1 q f)[k]?=some (.bool (f k)):=by rw[cP,afJ h];rfl
theorem afj{n q:Nat}(hn:lo<=n)(hq:n+1<=q):(aa1 q (abC f lo n)).set (n+1) (.bool true)=aa1 q (abC f lo (n+1)):=by unfold aa1;rw[<-aey hn hq,oe]
section
variable {F:Fence}{n:Nat}{P:Program}{Mr:List Nat}{md:Region.Mode}{ops:Array Oper}{Q:Exit→Act→World→Prop}
theorem aaI{n0:Nat}{L:Act->World->Prop}(hsel:Region.noSelect ops=true)(hdef:uh ops=true)
 (hQ:∀(i:Nat) (o:Oper),ops[i]?=some o->∀v c a w,Q (.panic c) (a.put o.dst v) w->Q (.panic c) a w) (ht:kZ md ops n0=true):
 ∀(ord:List Nat) (listed:Array Bool) (a:Act) (w:World),HeadInv md ops n0 listed->BP md ops n0 ord listed=true->jH F n P Mr ops Q L ord a w->jQ F n P Mr md ops Q n0 (fun l a w=>l=wW ord listed/\L a w) ord.length listed a w
 | [],listed,a,w,_,_,h=>⟨rfl,by unfold jH at h;exact h⟩
 |i::rest,listed,a,w,inv,hok,h=>by
  simp only[BP,cJ,du]at hok;obtain⟨⟨⟨hin,hr⟩,hk⟩,hrest⟩:=hok;have hr':i∈Region.ready md ops listed:=by simpa using hr
  have u:=inv.set hr' hin;simp only[jH]at h
  cases g:ops[i]? with
  |none=>rw[g]at h;exact h.elim
  |some o=>
   simp only[g]at h hk;have D:∀(l:Array Bool) (a:Act) (w:World),(l=wW rest (listed.setIfInBounds i true)/\L a w)->∀j∈Region.ready md ops l,n0<=j:=by
    rintro l a w ⟨rfl,_⟩ j b;have:∀(ord:List Nat) (listed:Array Bool),BP md ops n0 ord listed=true->∀j∈Region.ready md ops (wW ord listed),n0<=j:=by
     intro ord
     induction ord with
     |nil=>intro listed h j b;simp only[BP,cQ]at h;simpa using h j b
     |cons k r ih=>intro listed h j b;simp only[BP,cJ]at h;exact ih _ h.2 j b
    exact this rest _ hrest j b
   by_cases m:Oper.mild o=true
   ·simp only[m,lL]at h hk;have t:∃v,dw P Mr ops o v a w/\jH F n P Mr ops Q L rest (a.put o.dst v) w:=by
     by_cases H:Region.wanted o (yielded ops a.tmps)=true;·simp only[H,lL]at h;obtain⟨v,B,C⟩:=h;exact⟨v,by unfold dw;exact .inl ⟨H,B⟩,C⟩
     simp only[H]at h;exact⟨undef,by unfold dw;exact .inr ⟨by simpa using H,rfl⟩,h⟩
    obtain⟨v,t,hx⟩:=t;exact ni m g (Region.noSelect_spec hsel) hdef (fun c a w=>hQ i o g _ c a w) ht hin D _ listed a w inv (Region.free_spec g hk) hr' t (aaI hsel hdef hQ ht rest _ _ _ u hrest hx)
   ·rw[if_neg m]at h hk;refine⟨fun e=>(by rw[e]at hr';cases hr'),fun j b=>?_⟩;have E:j=i:=by simpa using cQ.1 hk j b
    subst E;exact⟨hin,wpOpIn_mono (fun G w' z=>⟨z.1,aaI hsel hdef hQ ht rest _ _ _ u hrest z.2⟩) h⟩
def afk(Q:Exit->Act->World->Prop)(S:List PanicEntry->Act->World->Prop):Exit->Act->World->Prop
 | .normal,a,w=>Q .normal a w
 | .panic c,a,w=>S c a w
 |_,_,_=>False
theorem acp(Mr:List Nat){w:World}(n0 g:Nat)(ord:List Nat)(S:List PanicEntry->Act->World->Prop)(hm:P.follows .mixedOrders=true)(hok:FM ops n0 ord=true)(hg:ops.size-n0=g)
 (hS:∀(i:Nat) (o:Oper),ops[i]?=some o->∀v c a w,S c (a.put o.dst v) w->S c a w) (hQ:∀c a w,S c a w->Q (.panic c) a w)
 (h:jH F n P Mr ops (afk Q S) (fun a' w'=>wpOpsIn F n P ops Q (List.range' n0 g) a' w') ord a w.drew):(Code.region id ops true).wpIn F n P Q a w:=by
 subst hg;simp only[FM,cJ,du]at hok;obtain⟨⟨⟨⟨⟨⟨u,z⟩,h3⟩,h4⟩,h5⟩,h6⟩,h7⟩:=hok;have E:HeadInv .any ops n0 (Array.replicate ops.size false):=⟨oO,fun j G _ b=>(by rw[getD_replicate_false]at b;cases b),fun t _ D=>by simp[D]⟩;have m:=aaI (F:=F) (n:=n) (P:=P) (md:=.any) (Q:=afk Q S) u z (fun i o C v c a w h=>hS i o C v c a w h) h3 ord _ a _ E h4 h;rw[h5]at m;refine wpIn_region_any hm ?_;have:=iK (g:=ops.size-n0) (fun l a w b=>by obtain⟨rfl,B⟩:=b;exact iT _ _ _ a w h7 B) _ _ _ _ (yE (Q':=Q) (fun e a w h=>by cases e<;>first|exact h|exact hQ _ _ _ h|exact h.elim) _ _ _ _ m)
 rwa [show n0+(ops.size-n0)=ops.size by omega]at this
theorem afl{k:Nat}(h:d≠some k):(a.put d v).tmps.getD k undef=a.tmps.getD k undef:=by
 cases d with
 |none=>rfl
 |some t=>have S:t≠k:=fun e=>h (by rw[e]);simp only[Act.put,l6];rw[Array.getElem?_setIfInBounds_ne S]
def aeC(C:List PanicEntry)(T:World->Prop)(D:List Deferred)(V:List (Nat×Value)):List PanicEntry->Act->World->Prop:=fun c a u=>c=C/\T u/\a.defers=D/\∀p,p∈V->a.tmps[p.1]?.getD undef=p.2
theorem aeC.put{C c:List PanicEntry}{T:World->Prop}{D:List Deferred}{V:List (Nat×Value)}{v':Value}{w:World}(hk:∀p,p∈V->d≠some p.1)(h:aeC C T D V c (a.put d v') w):aeC C T D V c a w:=by
 obtain⟨g,m,o,t⟩:=h;refine⟨g,m,?_,fun p b=>?_⟩;·cases d<;>exact o
 have h:=t p b;rw[<-l6]at h |-
 rwa [afl (hk p b)]at h
theorem abX(Mr:List Nat){w:World}(n0 g:Nat)(ord:List Nat)(C:List PanicEntry)(T:World->Prop)(D:List Deferred)(V:List (Nat×Value))(hm:P.follows .mixedOrders=true)(hok:FM ops n0 ord=true)(hg:ops.size-n0=g)
 (hd:(ops.all fun o=>V.all fun p=>o.dst !=some p.1)=true) (hQ:∀tm u,T u->(∀p,p∈V->tm[p.1]?.getD undef=p.2)->Q (.panic C) { tmps:=tm,defers:=D } u)
 (h:jH F n P Mr ops (afk Q (aeC C T D V)) (fun a' w'=>wpOpsIn F n P ops Q (List.range' n0 g) a' w') ord a w.drew):(Code.region id ops true).wpIn F n P Q a w:=by
 refine acp Mr n0 g ord (aeC C T D V) hm hok hg (fun i o z v c a w h=>aeC.put (fun p B e=>?_) h) (fun c a w h=>?_) h;·have:=cQ.1 (Array.all_eq_true_iff_forall_mem.1 hd o (Array.mem_of_getElem? z)) p B;simp[e]at this
 ·obtain⟨rfl,b,m,t⟩:=h;obtain⟨tm,E⟩:=a;subst m;exact hQ tm w b t
end
attribute [local go_sem] cK
section
variable {r:aS}{s1 s2 s3 s4 s5 s6 s7:dK}{w:World}{k e n c:Nat}{A:Option Addr}{os:List aM}{x:aJ}
theorem aaS(hr:dG w [] r s1 s2 s3 s4 s5 s6 s7)(hcs:Sl aM w [] A n c os)(hg:∀y,y∈os->f_ r k (toC y)/\yI r (toC y)/\vF r k (toC y)=0)(hs:Sound r)(ht:Tab w)(hx:r.rounds[k]?=some x)(hp:x.2.2.2.2.1=false)(hf:x.2.2.2.2.2.1=false)(hlv:aa6 r.aT.length (aaL r.aT.length k (au x))=true)(hcl:r.aT.length<=1000)(hkl:k<=1000)(he:e<n)(hn:n<=6):
 Calls prog 9 #[.agg (aV r s1 s2 s3 s4 s5 s6 s7).toArray,.int .i64 k,.slice A n c,.int .i64 e] w fun e' w'=>(((∀y,y∈os->aah r (toC y)<=5040)/\∃B m d,e'=.returned (.tuple #[.slice B m d,.int .i64 0])/\Sl Int w' [] B m d ((aay (os.map fun y=>af r x (toC y)) e).map Int.ofNat))\/((∃y,y∈os/\5040<aah r (toC y))/\e'=.returned (.tuple #[.slice none 0 0,.int .i64 2])))/\Below w w w':=by
 refine wid ?_;have bt:os.length=n:=hcs.len;obtain⟨W1,ca,F1⟩:=dR ((((Fr.nil w).a w (aV r s1 s2 s3 s4 s5 s6 s7) 28).a (w+1) [.int .i64 e] 3).a (w+2) [.int .i64 0] 32);have o1:=aW F1;have F:=Hd F1;have HB:=Hd (aa7 (hr.go F1.bl) hs (tab_below ht F1.bl) pf (bj.1 hx).1);have HL:=Hd (fun(V:World) (hb:Below w w V)=>aco (hr.go hb) hs hx hp hf hlv (tab_below ht hb) pf hcl hkl);have H:=Hd7 hr hcs hg hs ht hx hp;clear F1 hr hcs hg hs ht hx hp hf hlv;refine qj func9 rfl ntmps9 ?_;have gn:((n:Nat):Int)<=4096:=oE
 gi_wp2_with (first
  |(have g:=G1.out;clear g;refine Cl 30 (aaq _ _) ?_;rintro e' co ⟨rfl,rfl⟩)
  |(refine Cl 29 HB.out ?_;rintro e' w2 ⟨rfl,bn⟩;have FO:=F.out.go bn;have o2:=aW FO;obtain⟨J,b0,F3⟩:=dR (FO.a w2 (evV r s1 s2 s3 s4 s5 s6 s7 k) 79);have o3:=aW F3;obtain⟨w4,cm,F4⟩:=dR (F3.a J [.slice none 0 0] 82);have o4:=aW F4;replace F:=Hd F4;have cg:=FO.mJ 2;have G1:=Hd trivial;clear bn FO F3 F4)
  |fail)
 have bH:J.heap.size=w2.heap.size+1:=by rw[<-b0];simp
 have V0:=Hd (VbR.nil (α:=OpP) (e:=85) (M:= []) (j:=0) (L:= [(w,aV r s1 s2 s3 s4 s5 s6 s7),(w+1, [.int .i64 e]),(w+2, [.int .i64 0]),(w2,evV r s1 s2 s3 s4 s5 s6 s7 k)]) (bl:=J.heap.size) (C:=fun v=> [v]) F.out (fun b vs hm=>by simp at hm;omega) (b_.nil _) (fun _=>rfl) (fun _ _=>rfl));have b5:=Hd bH;clear bH o1 o2 o3 o4;gi_loopw[33] (fun i wr=>∃(q:Nat) (v:Value),q<=n/\i=.int .i64 q/\Hid (VbR OpP 85 [] w w4 [(w,aV r s1 s2 s3 s4 s5 s6 s7),(w+1, [.int .i64 e]),(w+2, [.int .i64 0]),(w2,evV r s1 s2 s3 s4 s5 s6 s7 k)] J.heap.size 0 (fun v=> [v]) v ((os.take q).map fun y=>(y,([]:List fC))) wr)) (fun i _=>n-(intOf i).toNat);case atStart=>exact⟨0,_,bO _,rfl,V0⟩
 case round=>
  obtain⟨q,v,hq,rfl,T⟩:=hrel;have S:=T.out.fr;have o2:=aW S;by_cases cf:q<n
  ·obtain⟨y,N⟩:=dW os q oE;obtain⟨g1,g2,g3⟩:=H.c y (aR N);obtain⟨b,o,t1,t2,t3,t4,rfl,⟨v0,v1,v2,v3⟩,ak⟩:=H.b.abJ N;have aQ:=fun{p:Addr}{u:Value}(h:w.cell? p=some u)=>(S.bl.cell (bu w p h)).trans h;replace v0:=aQ v0;replace v1:=aQ v1;replace v2:=aQ v2;replace v3:=aQ v3;obtain⟨W5,CZ,ai,F5⟩:=fP (w:=wr) ((Fr.nil wr).a wr (dI t1 t2 t3 t4) 42);have Yu:=Hd F5;have o3:=aW (S.go ai);have o4:=aW F5;have oM:=T.out.go ai;have HR:=Hd (ab_ (i:=k) (H.a.go oM.fr.bl) (ak.go oM.fr.bl) H.d g3 (tab_below H.e oM.fr.bl) pf);have aq:=Hd oM;have bZ:os.take q++ [y]=os.take (q+1):=by rw[eo,N];rfl
   have HC:=Hd ak;have bY:(os.take q).length<=1000:=by rw[cI];omega
   clear aQ ak T S F5 ai oM N
   gi_wp2_with (first
    |(gi_at_builtin;refine cY rfl fun K Z=>?_;refine aI _ _ _ rfl rfl rfl JR.out (Z _ _ ?_);clear Z K)
    |(refine Cl 31 HR.out ?_;rintro e' w6 ⟨rfl,ad⟩;have R:=aq.out.go ad;have o5:=aW R.fr;have o6:=aW (Yu.out.go ad);have a3:=HC.out.moreL _ R.ge;have a8:=HC.out.marks.moreL _ R.ge;rw[ef]at a3 a8;obtain⟨v',w7,r1,q1,q2,R7,b2⟩:=R.app (x:=((y, []):OpP)) (cs:=adu t1 t2 t3 t4 ⟨none,0,0⟩) underlying82 adP (afI (a3.go R.fr.bl) (a8.go R.fr.bl) Sl.nil0) (by rw[cC];exact bY);obtain⟨A7,c7,rfl⟩:=R7.own.shape;obtain⟨z7,bJ⟩:=aC (((os.take q).map fun y=>(y,([]:List fC)))++ [((y, []):OpP)]).length;rw[bJ]at r1 R7;clear bJ;have JR:=Hd r1;have bS:=Hd R7;clear ad R a3 a8 r1 R7 b2)
    |fail)
   exact⟨⟨q+1,_,oE,by go_num,Hd (by rw[<-bZ,eO,List.map_singleton];exact bS.out)⟩,by simp[intOf];omega⟩
  ·obtain rfl:q=n:=oE;have O:=T.out;rw[bL oE]at O;obtain⟨Av,U,rfl⟩:=O.own.shape;have a7:(os.map fun y=>(y,([]:List fC))).length=q:=by rw[cC];omega
   rw[a7]at O;have o3:=aW O.fr;have HX:=Hd (HL.out _ O.fr.bl);have bf:=Hd O;have gE:((e:Nat):Int)>=0:=oE;have gF:((e:Nat):Int)<((q:Nat):Int):=oE;clear T S o2 O
   gi_wp2_with (first
    |(have g:=G3.out;clear g;refine Cl 30 (aaq _ _) ?_;rintro e' w6 ⟨rfl,rfl⟩)
    |(refine Cl 32 HX.out ?_;rintro e' w5 ⟨rfl,ai⟩;have oM:=bf.out.go ai;have o4:=aW oM.fr;have aq:=Hd oM;have G3:=Hd trivial;clear ai oM)
    |(refine⟨bq,?_⟩)
    |fail)
   clear o3 o4 HX bf;gi_loopw[59] (fun i b4=>∃j:Nat,j<=q/\i=.int .i64 j/\Hid ((∀y,y∈os.take j->aah r (toC y)<=5040))/\Hid (VbR OpP 85 [] w w4 [(w.heap.size,aV r s1 s2 s3 s4 s5 s6 s7),(w.heap.size+1, [.int .i64 e]),(w.heap.size+2, [.int .i64 0]),(w2.heap.size,evV r s1 s2 s3 s4 s5 s6 s7 k)] J.heap.size 0 (fun v=> [v]) (.slice Av q U) ((os.take j).map (fun y=>((y,(af r x (toC y)).map jd):OpP))++(os.drop j).map (fun y=>(y,([]:List fC)))) b4)) (fun i _=>q-(intOf i).toNat);case atStart=>exact⟨0,bO _,rfl,Hd (fun y N=>by rw[gO]at N;cases N),Hd (by rw[gO,fh];exact aq.out)⟩
   case round=>
    obtain⟨j,hj,rfl,a2,T⟩:=hrel;have S:=T.out.fr;have o4:=aW S;by_cases ce:j<q
    ·obtain⟨y,N⟩:=dW os j oE;obtain⟨g1,g2,g3⟩:=H.c y (aR N);have aD:((os.take j).map (fun y=>((y,(af r x (toC y)).map jd):OpP))).length=j:=by rw[cC,cI];omega
     have a4:((os.take j).map (fun y=>((y,(af r x (toC y)).map jd):OpP))++(os.drop j).map (fun y=>(y,([]:List fC))))[j]?=some (y, []):=by rw[cM oE,aD,ga,cP,fq,ed,N];rfl
     have a6:((os.take j).map (fun y=>((y,(af r x (toC y)).map jd):OpP))++(os.drop j).map (fun y=>(y,([]:List fC)))).length=q:=by rw[cH,aD,cC,eC];omega
     have hO:=T.out.own;rw[a6]at hO;obtain⟨g,b8,eg⟩:=qA hO oE;cases eg;obtain⟨es,ha,hb⟩:=hO.get a4;obtain⟨c1,c2,rfl,hc,A',n',c',rfl,-⟩:=ha;obtain⟨t1,t2,t3,t4,rfl,ak⟩:=aaK hc;have y0:=ah (show wr.cell? ⟨g,j*5,none⟩=some t1.v from(hb 0 _ rfl).1);have y1:=ah (show wr.cell? ⟨g,j*5+1,none⟩=some t2.v from(hb 1 _ rfl).1);have y2:=ah (show wr.cell? ⟨g,j*5+2,none⟩=some t3.v from(hb 2 _ rfl).1);have y3:=ah (show wr.cell? ⟨g,j*5+3,none⟩=some t4.v from(hb 3 _ rfl).1);simp only[dK.v]at y0 y1 y2 y3;have aX:∀z,z∈ [g,J.heap.size]->w.heap.size<=z/\z<wr.heap.size:=fun z G=>by simp only[cB,dz,il]at G;have h1:=hO.lt (k:=g) rfl;have h2:=T.out.wu;have h3:=S.mJ 4;have h4:=S.ge J.heap.size [.slice (some ⟨g,0,none⟩) q U] oO;rcases G with rfl|rfl<;>omega
     have bF:dG wr.drew [g,J.heap.size] r s1 s2 s3 s4 s5 s6 s7:=by have:=H.a.moreL [g,J.heap.size] (fun z G=>(aX z G).1);rw[ef]at this;exact this.go S.bl.drew
     have aU:=Hd (abT bF (ak.go (bw _ wr).drew) g1 g2 H.f H.z (tab_below H.e S.bl.drew) (fun z G=>(aX z G).2));have v0:=ah (S.aQ 4 0);have E:=abL S.drew;have HY:=oK N a4 a6 aD a7;clear aX bF ak hc hb hO N g1 g2 g3 a4 a6 aD a7;gi_wp2;refine abX [] 9 3 [0,1,2,3,4,5,6,7,8] [{ v:=Tj 2,recovered:=false }] (fun u=>Hid (5040<aah r (toC y))/\Hid (Below w w u)/\u.cell? ⟨w+1+1,0,none⟩=some (.int .i64 0)/\u.frozen? ⟨w+1+1,0,none⟩=false) [{ target:=.fn (.func 28) #[],args:=#[.pointer (some ⟨w+1+1,0,none⟩)] }] [(8,.slice none 0 0),(9,.pointer (some ⟨w+1+1,0,none⟩))] oF oF rfl oF (fun tm u hT h8=>?_) ?_;·obtain⟨bV,ay,c3,f3⟩:=hT;refine eM (f:=28) (args:=#[.pointer (some ⟨w+1+1,0,none⟩)]) oO oO oX (fun _ _=>bq) ?_;refine(aam ⟨w+1+1,0,none⟩ 2 0 [] _ c3 f3).mono ?_;rintro e u' b3 ⟨rfl,rfl,rfl⟩;refine⟨.tuple #[.slice none 0 0,.int .i64 2],?_,.inr ⟨⟨y,aR HY.a,bV.out⟩,rfl⟩,ay.out.setCell (p:=⟨w+1+1,0,none⟩) oS _⟩;have k8:tm[8]?.getD undef=_:=h8 _ cd;have k9:tm[9]?.getD undef=_:=h8 _ (bz _ cd);simp[results,results9,go_sem,c3,k8,k9]
     refine eH ?_;refine aH fun K hK=>aA rfl rfl wy fun K' Z=>?_;gi_wp2;refine Cl 33 aU.out ?_;rintro e' w6 ⟨⟨al,A8,n8,c8,rfl,Y⟩|⟨hgt,rfl⟩,ad⟩
     ·have R:=T.out.go ((bw _ wr).drew.trans ad);obtain⟨g',b9,eg,-,-,⟨u9,p1,p2⟩,R6⟩:=R.ag8 HY.b (s:=⟨A8,n8,c8⟩) Y;obtain rfl:g=g':=by
       injection eg with e1;injection e1 with e1;injection e1
      clear eg;simp only[dK.v]at R6;have bR:=Hd R6;refine Z _ _ ⟨?_,hK _ _ ?_⟩;clear Z K' hK K;·exact a_ ad _
      clear ad R R6 Y E v0 y0 y1 y2 y3 o4;refine lit ?_;refine aK ?_;refine jW fun K hK K' Z=>?_;gi_wp2;refine jW fun K hK K' Z=>?_;gi_wp2;refine jW fun K hK K' Z=>?_;gi_wp2;refine dC _ ?_;gi_wp2;refine⟨⟨j+1,oE,by go_num,Hd (fun z G=>?_),Hd ?_⟩,by simp[intOf];omega⟩
      ·rw[eo,HY.a]at G;rcases cR.1 G with G|G;·exact a2.out z G
       rw[show z=y by simpa using G];exact al
      have h:=bR.out;rw[afi (f:=fun y=>((y,(af r x (toC y)).map jd):OpP)) HY.a]at h;exact h
     have R:=(T.out.go ((bw _ wr).drew.trans ad)).fr;refine⟨rfl,⟨Hd hgt,Hd R.bl,R.aQ 2 0,R.zN 2 0⟩,rfl,fun p hp=>?_⟩;simp only[cB,dz,il]at hp;rcases hp with rfl|rfl<;>rfl
    ·obtain rfl:j=q:=oE;obtain⟨I,rfl⟩:∃V,V=wr:=⟨_,rfl⟩;have O:=T.out;have al:os.length<=j:=oE;rw[bL al,cA al,ix,ef]at O;have bQ:=Hd (show ∀y,y∈os->aah r (toC y)<=5040 from fun y N=>a2.out y (by rw[bL al];exact N));have bB:(os.map fun y=>((y,(af r x (toC y)).map jd):OpP)).length=j:=by rw[cC];exact bt
     have hO:=O.own;rw[bB]at hO;have bU:=O.hb;obtain⟨A',c',e',aw⟩:=hO.sl oE (fun z G=>by rw[bE]at G;omega);cases e';obtain⟨ls,ae⟩:=aC (os.map fun y=>af r x (toC y));obtain⟨oq,aE⟩:=aC (os.map fun y=>((y,(af r x (toC y)).map jd):OpP));have bC:oq.map (·.2)=ls.map (fun l=>l.map jd):=by rw[<-ae,<-aE,List.map_map,List.map_map];rfl
     have aY:ls.length=j:=by rw[<-ae,cC];exact bt
     have bk:aff ls:=fun l hl=>by rw[<-ae]at hl;obtain⟨y,N,rfl⟩:=ev.1 hl;obtain⟨g1,g2,-⟩:=H.c y N;exact⟨(aaH g1 g2 H.f H.z).ne,fun z G=>acL g1 g2 H.f H.z G⟩
     have bm:∀i,i<ls.length->aaF (ls.getD i []):=fun i hi=>by
      rw[aY]at hi;have br:i<os.length:=oE;obtain⟨g1,g2,-⟩:=H.c _ (gm br);have:=aaH g1 g2 H.f H.z
      rwa [<-ae,cx,cP,bX br]
     have bs:e<os.length:=oE;obtain⟨D,aZ⟩:=aC (af r x (toC os[e]));have bb:ls[e]?=some D:=by rw[<-ae,cP,bX bs,<-aZ];rfl
     have bp:ls.getD e []=D:=by rw[cx,bb];rfl
     have bA:oq[e]?=some (os[e],D.map jd):=by rw[<-aE,cP,bX bs,<-aZ];rfl
     rw[aE]at aw;obtain⟨ba,oa,t1,t2,t3,t4,s,rfl,⟨-,-,-,-,v4⟩,-,Y⟩:=aw.ag7 bA;obtain⟨As,ns,cs⟩:=s;have b7:D.length=ns:=by have:=Y.len;rwa [cC]at this
     have cl:=Y.small;obtain⟨W7,XM,an,F7⟩:=fP (w:=I) (O.fr.a I (aa1 j (aan ls e [])) 4);have mm:=fun V=>ag9 (q:=j) oE (ls:=ls) (e:=e) V;have o7:=aW (O.fr.go an);have bK:=(an.cell (bu I _ v4)).trans v4;simp only[dK.v]at bK;have A7:=Hd (((aw.less (M':= []) pf).more (b:=I) pc).go an);have S7:=Hd (((Y.less (M':= []) pf).more (b:=I) pc).go an);have bc:=Hd F7;have ab:=oK bC bk bm bp ae;have aL:=Hd aY;have bP:=Hd (show ∀b vs,(b,vs)∈ [(w.heap.size,aV r s1 s2 s3 s4 s5 s6 s7),(w.heap.size+1, [.int .i64 e]),(w.heap.size+2, [.int .i64 0]),(w2.heap.size,evV r s1 s2 s3 s4 s5 s6 s7 k),(J.heap.size, [.slice (some ⟨ba,oa,none⟩) j U])]->b<I.heap.size from fun b vs hm=>O.fr.lt b vs hm);have aU:=Hd bb;clear T O a2 bB hO aw bC bk bm bb bp bA Y v4 an F7 bU S aq aE ae aZ aY al;have cb:=bc.out.ge I.heap.size (aa1 j (aan ls e [])) oO;gi_wp2;clear o4 o7 bK mm;gi_loopw[84] (fun i wv=>∃t:Nat,t<=ns/\i=.int .i64 t/\Hid (Fr w wv ([(w.heap.size,aV r s1 s2 s3 s4 s5 s6 s7),(w.heap.size+1, [.int .i64 e]),(w.heap.size+2, [.int .i64 0]),(w2.heap.size,evV r s1 s2 s3 s4 s5 s6 s7 k),(J.heap.size, [.slice (some ⟨ba,oa,none⟩) j U])]++ [(I.heap.size,aa1 j (aan ls e (D.take t)))]))/\Hid (Sl OpP wv [I.heap.size] (some ⟨ba,oa,none⟩) j U oq)/\Hid (SlR wv [I.heap.size] As ns cs D)) (fun i _=>ns-(intOf i).toNat);case atStart=>exact⟨0,bO _,rfl,by rw[gO];exact bc,A7,S7⟩
     case round=>
      obtain⟨t,ht,rfl,W,hA,hS⟩:=hrel;obtain⟨V8,rfl⟩:∃V,V=wr:=⟨_,rfl⟩;have o2:=aW (W.out.only (L':= [(w,aV r s1 s2 s3 s4 s5 s6 s7),(w+1, [.int .i64 e]),(w+2, [.int .i64 0]),(w2,evV r s1 s2 s3 s4 s5 s6 s7 k),(J, [.slice (some ⟨ba,oa,none⟩) j U])]) (fun z G=>df _ G));by_cases ch:t<ns
      ·obtain⟨z,G⟩:=dW D t oE;obtain⟨b1,o1,p1,q1,A1,n1,c1,B1,m1,d1,es,⟨x0,x1,x2,x3⟩,qc⟩:=hS.out.adn G;subst es;obtain⟨W8,bT,aj,F8⟩:=fP (w:=V8) ((Fr.nil V8).a V8 [.bool p1,.slice A1 n1 c1,.bool q1,.slice B1 m1 d1] 48);have av:=W.out.go aj;have am:=fB av (hA.out.go aj) (hS.out.go aj);have aF:=(ab.b D (aR aU.out)).2 z (aR G);have a9:=(qc.go aj).acj (M':= []) pf;have aO:=Hd (aes (n:=j) (c:=U) (e:=e) (ba:=J.heap.size) (be:=w.heap.size+1) (bx:=V8.heap.size) ((hA.out.go aj).less (M':= []) pf) ab.a ab.b aF oE (av.aQ 4 0) (av.aQ 1 0) (F8.aQ 0 0) (F8.aQ 0 1) (F8.aQ 0 2) (F8.aQ 0 3) a9);have bg:=aeQ (e:=e) ab.c aF.ok;have bi:=aeR (g:=az) (x:=z) (show e<ls.length by rw[aL.out];exact he);rw[aL.out]at bi;obtain⟨lo,hlo⟩:=aC (aaw ax ls e z);obtain⟨hi,a5⟩:=aC (aaw az ls e z);rw[hlo]at aO bg;rw[a5]at bg bi;have ap:=fB F8 a9 aF;have ar:=fB G hlo a5;have bI:W8.heap.size=V8.heap.size+1:=by rw[<-bT];simp
       have b6:=Hd bI;clear qc F8 av aj aF a9 W hA hS G hlo a5 bI
       gi_wp2_with (first
        |(have g:=G5.out;clear g;refine Cl 34 aG.out ?_;rintro e' cn ⟨rfl,uU⟩;have a0:=fB (ao.a.go uU) (ao.b.go uU) (ao.v.go uU);clear uU)
        |(refine Cl 34 aO.out ?_;rintro e' w9 ⟨rfl,Ns⟩;have F9:=ap.a.go Ns;have h9:=am.a.go Ns;have aG:=Hd (aeu (n:=j) (c:=U) (e:=e) (ba:=J.heap.size) (be:=w.heap.size+1) (bx:=V8.heap.size) ((am.b.go Ns).less (M':= []) pf) ab.a ab.b ap.v oE (h9.aQ 4 0) (h9.aQ 1 0) (F9.aQ 0 0) (F9.aQ 0 1) (F9.aQ 0 2) (F9.aQ 0 3) (ap.b.go Ns));rw[ar.v]at aG;have ao:=fB h9 (am.b.go Ns) (am.v.go Ns);have G5:=Hd trivial;clear Ns F9 h9)
        |fail)
       clear aG aO ap am ao G5;gi_loopw[21] (fun v wv=>∃m:Nat,lo<=m/\m<=hi+1/\v=.int .i64 m/\Hid (Fr w wv ([(w.heap.size,aV r s1 s2 s3 s4 s5 s6 s7),(w.heap.size+1, [.int .i64 e]),(w.heap.size+2, [.int .i64 0]),(w2.heap.size,evV r s1 s2 s3 s4 s5 s6 s7 k),(J.heap.size, [.slice (some ⟨ba,oa,none⟩) j U])]++ [(I.heap.size,aa1 j (abC (aan ls e (D.take t)) lo m))]))/\Hid (Sl OpP wv [I.heap.size] (some ⟨ba,oa,none⟩) j U oq)/\Hid (SlR wv [I.heap.size] (some ⟨b1,o1,none⟩) ns cs D)) (fun v _=>hi+1-(intOf v).toNat);case atStart=>exact⟨lo,bh _,oE,rfl,Hd (by rw[show aa1 j (abC (aan ls e (D.take t)) lo lo)=aa1 j (aan ls e (D.take t)) by unfold aa1;rw[aex]];exact a0.a),Hd a0.b,Hd a0.v⟩
       case round=>
        obtain⟨m,bW,ci,rfl,W,hA,hS⟩:=hrel;by_cases cj:m<=hi;·have aB:=ad7 (q:=j) (k:=m+1) (f:=abC (aan ls e (D.take t)) lo m) oE;have bo:=(W.out.at_ I.heap.size _ oO (m+1) _ aB).1;have cc:=(W.out.at_ I.heap.size _ oO (m+1) _ aB).2;have kp:Keeps [I] wr (wr.setCell ⟨I,m+1,none⟩ (.bool true)):=(cF _ _).setCell (p:=⟨I,m+1,none⟩) (.inl oO) _;have f2:=Fr.qY (L:= [(w,aV r s1 s2 s3 s4 s5 s6 s7),(w+1, [.int .i64 e]),(w+2, [.int .i64 0]),(w2,evV r s1 s2 s3 s4 s5 s6 s7 k),(J, [.slice (some ⟨ba,oa,none⟩) j U])]) (b:=I) (C:=aa1 j (abC (aan ls e (D.take t)) lo m)) W.out (fun c vs hm=>Nat.ne_of_lt (bP.out c vs hm)) aB (.bool true);rw[afj bW oE]at f2;have HK:=fB f2 (hA.out.keep kp) (hS.out.keep kp);clear f2 kp aB W hA hS;gi_wp2;exact⟨⟨m+1,oE,oE,by go_num,Hd HK.a,Hd HK.b,Hd HK.v⟩,by simp[intOf];omega⟩
        ·obtain rfl:m=hi+1:=oE;have aa:=W.out;rw[<-ar.b,<-ar.v,show aa1 j (abC (aan ls e (D.take t)) (aaw ax ls e z) (aaw az ls e z+1))=aa1 j (aan ls e (D.take (t+1))) by unfold aa1;rw[aez ar.a]]at aa;have bM:=Hd aa;clear aa W;gi_wp2;exact⟨⟨t+1,oE,by go_num,bM,hA,hS⟩,by simp[intOf];omega⟩
      ·obtain rfl:t=ns:=oE;have aa:=W.out;rw[bL oE]at aa;obtain⟨L6,a1⟩:=aC ([(w.heap.size,aV r s1 s2 s3 s4 s5 s6 s7),(w.heap.size+1, [.int .i64 e]),(w.heap.size+2, [.int .i64 0]),(w2.heap.size,evV r s1 s2 s3 s4 s5 s6 s7 k),(J.heap.size, [.slice (some ⟨ba,oa,none⟩) j U])]++ [(I.heap.size,aa1 j (aan ls e D))]);have bN:=Hd a1;rw[a1]at aa;have R0:=Hd (show yg (α:=Int) 3 w V8 L6 (.slice none 0 0) (rkK (aan ls e D) 0).length (rkK (aan ls e D) 0) V8 from⟨bD.nil _ _ _,aa,bw _ _,aa.lt,aa.bl.size⟩);clear aa a1 W hA hS;gi_wp2;clear o2;gi_loopw[8,106] (fun v i wv=>∃m:Nat,m<=j+1/\i=.int .i64 m/\Hid (yg (α:=Int) 3 w V8 L6 v (rkK (aan ls e D) m).length (rkK (aan ls e D) m) wv)) (fun _ i _=>j+1-(intOf i).toNat);case atStart=>exact⟨0,bO _,rfl,R0⟩
       case round=>
        obtain⟨m,hm,rfl,hR⟩:=hrel;have ac:=hR.out.fr;rw[<-bN.out]at ac;by_cases ck:m<j+1
        ·have bo:=(ac.at_ I.heap.size _ oO m _ (ad7 (q:=j) (k:=m) (f:=aan ls e D) oE)).1;have ag:=afh (f:=aan ls e D) (k:=m);obtain⟨b,hb⟩:=aC (aan ls e D m);rw[hb]at bo ag;have hkl:=ad6 (f:=aan ls e D) (k:=m)
         cases b with
         |false=>rw[if_neg oO,ef]at ag;have aP:=Hd ag;clear ac ag hb hkl;gi_wp2;exact⟨⟨m+1,oE,by go_num,by rw[aP.out];exact hR⟩,by simp[intOf];omega⟩
         |true=>
          rw[if_pos rfl]at ag;obtain⟨v',wA,r1,R1⟩:=hR.out.app (x:=(m:Int)) (cs:= [.int .i64 m]) underlying26 RY ⟨rfl,oV⟩ oE;have HA:=Hd2 r1 R1;have aP:=Hd ag;clear ac ag hb hkl r1 R1
          gi_wp2_with (first
           |(have g:=HA;clear g;gi_at_builtin;refine cY rfl fun K Z=>?_;have X:=HA.a;refine aI _ _ _ rfl rfl rfl X (Z _ _ ?_);clear Z K X)
           |fail)
          exact⟨⟨m+1,oE,by go_num,Hd (by rw[aP.out,cH];exact HA.u)⟩,by simp[intOf];omega⟩
        ·obtain rfl:m=j+1:=oE;have hkl:=ad6 (f:=aan ls e D) (k:=j+1);obtain⟨B,d,rfl,Y⟩:=hR.out.sl oE;have ay:=ac.bl;have c2:wr.cell? ⟨w+1+1,0,none⟩=some (.int .i64 0):=ac.aQ 2 0;have q0:=aN c2;have f2:wr.frozen? ⟨w+1+1,0,none⟩=false:=ac.zN 2 0;have bG:rkK (aan ls e D) (j+1)=(aay (os.map fun y=>af r x (toC y)) e).map Int.ofNat:=by
          rw[ab.x,aeA aL.out,ab.d];rfl
         obtain⟨nl,bv⟩:=aC (rkK (aan ls e D) (j+1)).length;rw[bv]at Y |-;rw[bG]at Y;have bd:=Hd2 Y ay;clear ac hR hkl Y bG ay bv;gi_wp2;try rw[q0]
         refine eM (f:=28) (args:=#[.pointer (some ⟨w+1+1,0,none⟩)]) oO oO oX (fun _ _=>bq) ?_;refine(abx ⟨w+1+1,0,none⟩ _).mono ?_;rintro e1 u' b3 ⟨rfl,rfl,rfl⟩;refine⟨.tuple #[.slice B nl d,.int .i64 0],?_,.inl ⟨bQ.out,_,_,_,rfl,bd.a⟩,bd.u⟩;simp[results,results9,go_sem,c2]
end
end
