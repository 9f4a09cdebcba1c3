/- Lemmas -/
import Derived.Test.YtfdmnogfflcllaaGreatDoorM36
set_option linter.all false
set_option maxRecDepth 100000
set_option maxHeartbeats 0
namespace Go.Proofs.YtfdmnogfflcllaaGreatDoor
open Go.Proofs.Tryz
theorem wL{p:Prop}(h:p:=by
 have ap:IntKind.i64.wrap ((kk:Int)+1)=((kk+1:Nat):Int):=by rw[cA];omega
 clear g3 aa;by_cases ae:0<z
 ·have g2:decide (z>0)=true:=cx ae;gi_wp2;refine ak [] [0,1,2,3,4,5,7,6,8,9,10] pk pk ?_;refine eH ?_;refine aH fun K g=>aA rfl rfl wy fun B m=>?_;gi_wp2;refine Cl _ HF.out ?_;rintro e' w3 ⟨u,rfl,S,D⟩;have C:=I.out.drew.trans (D.mono I.out.drew.size);have N:=Hd (aag pH S (HQ.out.go C).qw HY.a.ok H.w.ok (uQ HY.a H.w pj));rw[E.a]at N;have J:=Hd C;refine m _ _ ⟨?_,g _ _ ?_⟩;clear m B g K;·exact bq D _
  clear D S C;refine lit ?_;refine eH ?_;refine aH fun K g=>aA rfl rfl wy fun B m=>?_;gi_wp2;refine Cl 35 N.out ?_;rintro e' w4 ⟨rfl,hb4⟩;have V:=Hd (J.out.trans (hb4.mono J.out.size));refine m _ _ ⟨?_,g _ _ ?_⟩;clear m B g K;·exact bq hb4 _
  clear hb4;refine lit ?_;refine eH ?_;refine aK ?_;refine lit ?_;gi_wp2;exact⟨⟨k+1,pj,by go_num,by rw[HY.b,W.out,HY.v,E.a,E.u,cx ae];rfl,V⟩,by simp[intOf];omega⟩
 have g2:decide (z>0)=false:=cE ae;gi_wp2;refine ak [] [0,1,2,3,4,5,7,6,8,9,10] pk pk ?_;refine eH ?_;refine aH fun K g=>aA rfl rfl wy fun B m=>?_;gi_wp2;refine Cl _ HF.out ?_;rintro e' w3 ⟨u,rfl,S,D⟩;have C:=I.out.drew.trans (D.mono I.out.drew.size);have N:=Hd (aag pH S (HQ.out.go C).qw HY.a.ok H.w.ok (uQ HY.a H.w pj));rw[E.a]at N;have J:=Hd C;refine m _ _ ⟨?_,g _ _ ?_⟩;clear m B g K;·exact bq D _
 clear D S C;refine lit ?_;refine eH ?_;refine aH fun K g=>aA rfl rfl wy fun B m=>?_;gi_wp2;refine Cl 35 N.out ?_;rintro e' w4 ⟨rfl,hb4⟩;have V:=Hd (J.out.trans (hb4.mono J.out.size));refine m _ _ ⟨?_,g _ _ ?_⟩;clear m B g K;·exact bq hb4 _
 clear hb4;refine lit ?_;refine eH ?_;refine aK ?_;refine lit ?_;gi_wp2;exact⟨⟨k+1,pj,by go_num,by rw[HY.b,W.out,HY.v,E.a,E.u,cE (show ¬0<z by omega)];rfl,V⟩,by simp[intOf];omega⟩):p:=h
theorem Bq{p:Prop}(h:p:=by
 gi_wp2;obtain⟨O,B,t0,D,E,G,hQ,m⟩:=nN (M:=M) (F.out.aQ 1 0) (F.out.aQ 1 1) (F.out.aQ 1 2) (F.out.aQ 1 3) (x:=y) R.out.num.sl R.out.den.sl R.out.num.neg R.out.den.neg F.out.bl (ja _);try rw[B]
 exact⟨rfl,.agg #[p,.slice A1 n1 c1,q,.slice g C t],by simp[results,go_sem,t0,D,E,G],_,rfl,hQ,m⟩):p:=h
theorem BM{p:Prop}(h:p:=by subst aa;have g1:((k:Int)!=(k:Int))=false:=po;gi_wp2;refine ak [] [0,1,2,3,4,5,7,6,8,9,10] pk pk ?_;refine eH ?_;refine aK ?_;refine lit ?_;gi_wp2;exact⟨⟨k+1,pj,by go_num,by rw[HY.b,W.out];simp,Hd I.out.drew⟩,by simp[intOf];omega⟩):p:=h
theorem O_{p:Prop}(h:p:=by obtain rfl:k=n:=pj;have hE:=HZ.out;rw[R]at hE;subst hE;clear R af aQ;gi_wp2;go_ret;exact⟨rfl,O.out⟩):p:=h
theorem X8{p:Prop}(h:p:=by have h:=gT (fun z=>z[k]?) H.b;simp only[cM,hy,T,gw,mz]at h;exact h):p:=h
variable {s:dK}{j i lo id:Nat}{v:Value}{f:Nat→Bool}{a:Act}{d:Option Tmp}
section
open Go.RowKit Go.Shelf
attribute [local go_sem] cX
abbrev adI(t1 t2 t3 t4 s:dK):List Value:= [.slice t1.A t1.n t1.c,.slice t2.A t2.n t2.c,.slice t3.A t3.n t3.c,.slice t4.A t4.n t4.c,.slice s.A s.n s.c]
section
variable {M:List Nat}{A:Option Addr}{n c:Nat}{l:List Rt}{t1 t2 t3 t4:dK}{y:Rt}{w:World}
theorem afs(hs:SlR w M A n c l)(hy:l[0]?=some y):
 Calls prog 36 #[.agg (adI t1 t2 t3 t4 ⟨A,n,c⟩).toArray] w fun e w'=>∃u,e=.returned u/\QW w' M u y/\Below w w w':=by
 refine wid ?_;have z:l.length=n:=by have:=hs.len;rwa [ck]at this
 have K:=hs.small;have I:0<n:=by have:=(bu.1 hy).1;omega
 have L:IntKind.i64.wrap ((n:Int)-1)=((n-1:Nat):Int):=by rw[cA];omega
 have J:n-1<n:=pj;obtain⟨W1,H,F1⟩:=dR (((Fr.nil w).a w (adI t1 t2 t3 t4 ⟨A,n,c⟩) 85).a (w+1) [false,.slice none 0 0,false,.slice none 0 0] 48);have N:=aW F1;have F:=Hd F1;obtain⟨b,o,p,q,A1,n1,c1,g,C,t,rfl,⟨v0,v1,v2,v3⟩,qc⟩:=((hs.more (b:=w+1) (ja _)).go F1.bl).aaV hy;try simp only[fX,eB]at v0 v1 v2 v3
 have R:=Hd qc;clear hs qc F1 z hy;refine ent func36 ntmps36 ?_;exact Bq
theorem aft(hs:SlR w M A n c l)(hy:l[n-1]?=some y):
 Calls prog 37 #[.agg (adI t1 t2 t3 t4 ⟨A,n,c⟩).toArray] w fun e w'=>∃u,e=.returned u/\QW w' M u y/\Below w w w':=by
 refine wid ?_;have z:l.length=n:=by have:=hs.len;rwa [ck]at this
 have K:=hs.small;have I:0<n:=by have:=(bu.1 hy).1;omega
 have L:IntKind.i64.wrap ((n:Int)-1)=((n-1:Nat):Int):=by rw[cA];omega
 have J:n-1<n:=pj;obtain⟨W1,H,F1⟩:=dR (((Fr.nil w).a w (adI t1 t2 t3 t4 ⟨A,n,c⟩) 85).a (w+1) [false,.slice none 0 0,false,.slice none 0 0] 48);have N:=aW F1;have F:=Hd F1;obtain⟨b,o,p,q,A1,n1,c1,g,C,t,rfl,⟨v0,v1,v2,v3⟩,qc⟩:=((hs.more (b:=w+1) (ja _)).go F1.bl).aaV hy;try simp only[fX,eB]at v0 v1 v2 v3
 have R:=Hd qc;clear hs qc F1 z hy;refine ent func37 ntmps37 ?_;exact Bq
end
abbrev OpP:=aL×List fC
theorem Sl.aht{w:World}{M:List Nat}{A:Option Addr}{n c k:Nat}{l:List OpP}{x:OpP}(h:Sl OpP w M A n c l)(hk:l[k]?=some x):∃b o,∃t1 t2 t3 t4 s:dK,A=some ⟨b,o,none⟩/\
 (w.cell? ⟨b,o+k*5,none⟩=some t1.v/\w.cell? ⟨b,o+k*5+1,none⟩=some t2.v/\w.cell? ⟨b,o+k*5+2,none⟩=some t3.v/\w.cell? ⟨b,o+k*5+3,none⟩=some t4.v/\w.cell? ⟨b,o+k*5+4,none⟩=some s.v)/\jE w M (toC x.1) t1 t2 t3 t4/\Sl fC w M s.A s.n s.c x.2:=by
 obtain⟨b,o,z,rfl,m,g⟩:=h.get hk;obtain⟨c1,u,rfl,K,A,n,c,rfl,hs⟩:=m;obtain⟨t1,t2,t3,t4,rfl,t⟩:=aa2 K;exact⟨b,o,t1,t2,t3,t4,⟨A,n,c⟩,rfl,⟨g.2 0 _ rfl,g.2 1 _ rfl,g.2 2 _ rfl,g.2 3 _ rfl,g.2 4 _ rfl⟩,t,hs⟩
def acL(g:List Rt->Rt)(all:List (List Rt))(e:Nat)(x:Rt)(k:Nat):Nat:=(List.range k).countP fun i=>decide (i≠e)&&decide (0<rW (g (all.getD i [])) x)
theorem aep(g:List Rt->Rt)(all:List (List Rt))(e:Nat)(x:Rt)(k:Nat):acL g all e x k<=k:=by
 have:=mq (p:=fun i=>decide (i≠e)&&decide (0<rW (g (all.getD i [])) x)) (l:=List.range k)
 rwa [gh]at this
theorem acX{g:List Rt->Rt}{all:List (List Rt)}{e k:Nat}{x:Rt}:acL g all e x (k+1)=acL g all e x k+if(decide (k≠e)&&decide (0<rW (g (all.getD k [])) x))=true then 1 else 0:=by unfold acL;rw[oR,List.countP_append,List.countP_singleton]
def afu(ls:List (List Rt)):Prop:=∀l,l∈ls->l≠ []/\∀y,y∈l->yx y 300
theorem aer{l:List Rt}(h:l≠ []):l[0]?=some (aE l):=by have:=fL.2 h;unfold aE;rw[cC,cd this];rfl
theorem last_at{l:List Rt}{n:Nat}(h:l≠ [])(hn:l.length=n):l[n-1]?=some (ax l):=by subst hn;have:=fL.2 h;unfold ax;rw[cC,cd (show l.length-1<l.length by omega)];rfl
section
variable {A:Option Addr}{n c:Nat}{os:List OpP}{ls:List (List Rt)}{e:Nat}{x:Rt}{w:World}{ba be bx:Nat}{p q:Bool}{A1 B1:Option Addr}{n1 c1 m1 d1:Nat}
theorem aeL(hs:Sl OpP w [] A n c os)(hos:os.map (·.2)=ls.map (fun l=>l.map jd))(hls:afu ls)(hx:yx x 300)(hn:n<=4096)(ca:w.cell? ⟨ba,0,none⟩=some (.slice A n c))(ce:w.cell? ⟨be,0,none⟩=some (.int .i64 e))
 (x0:w.cell? ⟨bx,0,none⟩=some (.bool p)) (x1:w.cell? ⟨bx,1,none⟩=some (.slice A1 n1 c1)) (x2:w.cell? ⟨bx,2,none⟩=some (.bool q)) (x3:w.cell? ⟨bx,3,none⟩=some (.slice B1 m1 d1)) (qx:QC w [] x p q A1 n1 c1 B1 m1 d1):
 Calls prog 34 #[.func (.func 36) #[] #[],.pointer (some ⟨ba,0,none⟩),.pointer (some ⟨be,0,none⟩),.pointer (some ⟨bx,0,none⟩)] w fun e' w'=>e'=.returned (.int .i64 (aaL aE ls e x:Nat))/\Below w w w':=by
 refine wid ?_;have ad:os.length=n:=hs.len;have ac:ls.length=n:=by rw[<-ad];have:=gT List.length hos;simpa using this.symm
 obtain⟨Z,X⟩:=aC (aaL aE ls e x);rw[X];have H:=h_ hs hos hls hx;have HQ:=Hd qx;have HL:=Hd2 ad ac;have HZ:=Hd (show acL aE ls e x n=Z by rw[<-X,<-ac];rfl);have L:=Zw ca ce x0 x1 x2 x3;clear hs hos hls hx qx ad ac X;refine ent func34 ntmps34 ?_;gi_wp2;clear ca ce x0 x1 x2 x3;gi_loopw[5,10] (fun a i wr=>∃k:Nat,k<=n/\i=k/\a=.int .i64 (acL aE ls e x k:Nat)/\Hid (Below w w wr)) (fun _ i _=>n-(intOf i).toNat);case atStart=>exact⟨0,cf _,rfl,rfl,Hd pE⟩
 case round=>
  obtain⟨k,hk,rfl,rfl,O⟩:=hrel;have aQ:=fun{b o:Nat}{v:Value}(h:w.cell? ⟨b,o,none⟩=some v)=>(O.out.cell (bw w _ h)).trans h;have af:=aep aE ls e x k;obtain⟨kk,R⟩:=aC (acL aE ls e x k);rw[R]at af |-;by_cases aj:k<n
  ·obtain⟨y,hy⟩:=dW os k (by rw[HL.a];exact aj);obtain⟨l,T⟩:=dW ls k (by rw[HL.u];exact aj);obtain⟨ab,ai⟩:=H.c l (bh T);have al:y.2=l.map jd:=by
    exact X8
   obtain⟨b,o,t1,t2,t3,t4,s,rfl,⟨v0,v1,v2,v3,v4⟩,-,hsl⟩:=(H.a.go O.out).aht hy;rw[al]at hsl;obtain⟨As,ns,cs⟩:=s;have ao:l.length=ns:=by have:=hsl.len;rwa [ck]at this
   simp only[dK.v]at v0 v1 v2 v3 v4;obtain⟨W2,an,Y,t⟩:=fP (w:=wr) ((Fr.nil wr).a wr (adI t1 t2 t3 t4 ⟨As,ns,cs⟩) 85);have o2:=aW t.drew;have G:=fun{b o:Nat}{v:Value}(h:w.cell? ⟨b,o,none⟩=some v)=>ah ((Y.cell (bw wr _ (aQ h))).trans (aQ h));have ue:=G L.b;have u0:=G L.c;have u1:=G L.d;have u2:=G L.e;have u3:=G L.y;have ag:ls.getD k []=l:=by rw[cC,T];rfl
   have z0:=ah (t.aQ 0 0);have z1:=ah (t.aQ 0 1);have z2:=ah (t.aQ 0 2);have z3:=ah (t.aQ 0 3);have z4:=ah (t.aQ 0 4);have HF:=Hd (afs (y:=aE l) (t1:=t1) (t2:=t2) (t3:=t3) (t4:=t4) (hsl.go Y.drew) (aer ab));have HY:=fB (ai (aE l) (bh (show _=some _ from aer ab))) (@acX aE ls e k x) ag;have I:=Hd (O.out.trans (Y.mono O.out.size));clear hy T hsl ab ai al aQ G t ag;obtain⟨z,hz⟩:=aC (rW (aE l) x);have am:=Hd hz;have W:=Hd R;clear R hz;by_cases aa:k=e;·exact BM
   have g1:((k:Int)!=(e:Int))=true:=px;have g3:decide (k≠e)=true:=cx aa;have E:=Hd2 am.out g3;exact wL
  ·exact O_
theorem aeM(hs:Sl OpP w [] A n c os)(hos:os.map (·.2)=ls.map (fun l=>l.map jd))(hls:afu ls)(hx:yx x 300)(hn:n<=4096)(ca:w.cell? ⟨ba,0,none⟩=some (.slice A n c))(ce:w.cell? ⟨be,0,none⟩=some (.int .i64 e))
 (x0:w.cell? ⟨bx,0,none⟩=some (.bool p)) (x1:w.cell? ⟨bx,1,none⟩=some (.slice A1 n1 c1)) (x2:w.cell? ⟨bx,2,none⟩=some (.bool q)) (x3:w.cell? ⟨bx,3,none⟩=some (.slice B1 m1 d1)) (qx:QC w [] x p q A1 n1 c1 B1 m1 d1):
 Calls prog 34 #[.func (.func 37) #[] #[],.pointer (some ⟨ba,0,none⟩),.pointer (some ⟨be,0,none⟩),.pointer (some ⟨bx,0,none⟩)] w fun e' w'=>e'=.returned (.int .i64 (aaL ax ls e x:Nat))/\Below w w w':=by
 refine wid ?_;have ad:os.length=n:=hs.len;have ac:ls.length=n:=by rw[<-ad];have:=gT List.length hos;simpa using this.symm
 obtain⟨Z,X⟩:=aC (aaL ax ls e x);rw[X];have H:=h_ hs hos hls hx;have HQ:=Hd qx;have HL:=Hd2 ad ac;have HZ:=Hd (show acL ax ls e x n=Z by rw[<-X,<-ac];rfl);have L:=Zw ca ce x0 x1 x2 x3;clear hs hos hls hx qx ad ac X;refine ent func34 ntmps34 ?_;gi_wp2;clear ca ce x0 x1 x2 x3;gi_loopw[5,10] (fun a i wr=>∃k:Nat,k<=n/\i=k/\a=.int .i64 (acL ax ls e x k:Nat)/\Hid (Below w w wr)) (fun _ i _=>n-(intOf i).toNat);case atStart=>exact⟨0,cf _,rfl,rfl,Hd pE⟩
 case round=>
  obtain⟨k,hk,rfl,rfl,O⟩:=hrel;have aQ:=fun{b o:Nat}{v:Value}(h:w.cell? ⟨b,o,none⟩=some v)=>(O.out.cell (bw w _ h)).trans h;have af:=aep ax ls e x k;obtain⟨kk,R⟩:=aC (acL ax ls e x k);rw[R]at af |-;by_cases al:k<n
  ·obtain⟨y,hy⟩:=dW os k (by rw[HL.a];exact al);obtain⟨l,T⟩:=dW ls k (by rw[HL.u];exact al);obtain⟨ab,ai⟩:=H.c l (bh T);have am:y.2=l.map jd:=by
    exact X8
   obtain⟨b,o,t1,t2,t3,t4,s,rfl,⟨v0,v1,v2,v3,v4⟩,-,hsl⟩:=(H.a.go O.out).aht hy;rw[am]at hsl;obtain⟨As,ns,cs⟩:=s;have aj:l.length=ns:=by have:=hsl.len;rwa [ck]at this
   simp only[dK.v]at v0 v1 v2 v3 v4;obtain⟨W2,ao,Y,t⟩:=fP (w:=wr) ((Fr.nil wr).a wr (adI t1 t2 t3 t4 ⟨As,ns,cs⟩) 85);have o2:=aW t.drew;have G:=fun{b o:Nat}{v:Value}(h:w.cell? ⟨b,o,none⟩=some v)=>ah ((Y.cell (bw wr _ (aQ h))).trans (aQ h));have ue:=G L.b;have u0:=G L.c;have u1:=G L.d;have u2:=G L.e;have u3:=G L.y;have ag:ls.getD k []=l:=by rw[cC,T];rfl
   have z0:=ah (t.aQ 0 0);have z1:=ah (t.aQ 0 1);have z2:=ah (t.aQ 0 2);have z3:=ah (t.aQ 0 3);have z4:=ah (t.aQ 0 4);have HF:=Hd (aft (y:=ax l) (t1:=t1) (t2:=t2) (t3:=t3) (t4:=t4) (hsl.go Y.drew) (last_at ab aj));have HY:=fB (ai (ax l) (bh (show _=some _ from last_at ab aj))) (@acX ax ls e k x) ag;have I:=Hd (O.out.trans (Y.mono O.out.size));clear hy T hsl ab ai am aQ G t ag;obtain⟨z,hz⟩:=aC (rW (ax l) x);have an:=Hd hz;have W:=Hd R;clear R hz;by_cases aa:k=e;·exact BM
   have g1:((k:Int)!=(e:Int))=true:=px;have g3:decide (k≠e)=true:=cx aa;have E:=Hd2 an.out g3;exact wL
  ·exact O_
end
end
section
open Go.RowKit Go.Shelf
instance:kJ OpP:=⟨by
 intro w M x cs h u hu;obtain⟨c1,c2,rfl,hc,A,n,c,rfl,hs⟩:=h;obtain⟨t1,t2,t3,t4,rfl,hc2⟩:=aa2 hc;simp[dK.v]at hu;rcases hu with rfl|rfl|rfl|rfl|rfl<;>rfl⟩
theorem aeN:(prog.info? 85).map (fun i=>(i.zero,i.size,i.bytes))=some (some (.agg #[.slice none 0 0,.slice none 0 0,.slice none 0 0,.slice none 0 0,.slice none 0 0]),5,120):=pk
theorem ad8:iU 85 (Rep.sz OpP):=iU.mk' aeN rfl pj
theorem af2{w:World}{M:List Nat}{x:aL}{t1 t2 t3 t4:dK}{l:List fC}(h:jE w M (toC x) t1 t2 t3 t4)(hm:Sl (List Int) w M t1.A t1.n t1.c x.1)(hs:Sl fC w M s.A s.n s.c l):Rep.rd (α:=OpP) w M (x,l) (adI t1 t2 t3 t4 s):=⟨dI t1 t2 t3 t4, [s.v],rfl,acd h hm,s.A,s.n,s.c,rfl,hs⟩
theorem VbR.ahu{M:List Nat}{w u wr:World}{L:List (Nat×List Value)}{bl:Nat}{C:Value->List Value}{xs:List OpP}{y:aL}{l0 l:List fC}(h:VbR OpP 85 M w u L bl j C v xs wr)(hi:xs[i]?=some (y,l0))(hs:Sl fC wr (bP v++bl::M) s.A s.n s.c l):
 ∃g cap,v=.slice (some ⟨g,0,none⟩) xs.length cap/\g∉bl::M/\u.heap.size<=g/\(∃u0,wr.cell? ⟨g,i*5+4,none⟩=some u0/\wr.frozen? ⟨g,i*5+4,none⟩=false)/\VbR OpP 85 M w u L bl j C v (xs.set i (y,l)) (wr.setCell ⟨g,i*5+4,none⟩ s.v):=by
 have R:=(bu.1 hi).1;obtain⟨g,cap,rfl⟩:=qA h.own pj;obtain⟨B,O⟩:=h.own.lt (k:=g) rfl;have N:g∉bl::M:=fun m=>by
  rcases cD.1 m with rfl|m;·have:=h.hb;omega
  have:=h.bM g m;have:=h.wu;omega
 obtain⟨H,a,b⟩:=h.own.get hi;have t:=a;obtain⟨c1,G,rfl,K,A,n,c,rfl,S⟩:=t;obtain⟨t1,t2,t3,t4,rfl,J⟩:=aa2 K;have E:=b 4 _ rfl;obtain⟨z,o⟩:=h.own.afN (k:=i) (j:=4) (x:=((y,l):OpP)) (us:= [s.v]) hi (show 4+1<=5 from bj 5) (fun H t=>by obtain⟨c1,G,rfl,K,A,n,c,rfl,-⟩:=t;obtain⟨t1,t2,t3,t4,rfl,J⟩:=aa2 K;exact⟨dI t1 t2 t3 t4, [s.v],rfl,K,s.A,s.n,s.c,rfl,hs⟩) rfl;have I:fM wr g (i*Rep.sz OpP+4) [s.v]=wr.setCell ⟨g,i*5+4,none⟩ s.v:=rfl;rw[I]at z o;have kb:KB g wr (wr.setCell ⟨g,i*5+4,none⟩ s.v):=⟨o,by rw[<-I];exact aau (bj g) _ _ pE⟩;refine⟨g,cap,rfl,N,B,⟨_,E⟩,?_⟩;refine⟨by rw[fR];exact z,h.fr.kb kb (cF h.wu B) (fun c vs m=>?_),cF h.sz o.size,h.wu,h.bM,h.hL,h.hb,h.hC,h.hS,⟨cF h.kp.size o.size,fun q D m=>(o.block q (bX D h.sz) (by rw[bz];omega)).trans (h.kp.block q D m)⟩⟩;rcases cK.1 m with m|m;·have:=(h.hL c vs m).1;omega
 ·simp only[bz,fc]at m;have:=h.hb;omega
end
def aaf(ls:List (List Rt))(e:Nat)(xs:List Rt)(n:Nat):Bool:=xs.any fun x=>decide (aaL aE ls e x+1<=n)&&decide (n<=aaL ax ls e x+1)
def abP(f:Nat->Bool)(lo n k:Nat):Bool:=f k||(decide (lo+1<=k)&&decide (k<n+1))
def aaW(q:Nat)(f:Nat->Bool):List Bool:=(List.range (q+1)).map f
theorem af4{q k:Nat}(h:k<=q):(aaW q f)[k]?=some (f k):=by unfold aaW;rw[cM,ik pj];rfl
theorem afv{q:Nat}:(aaW q f).length=q+1:=by simp[aaW]
theorem aeO{ls:List (List Rt)}{e q:Nat}:aaW q (aaf ls e [])=List.replicate (q+1) false:=by refine jx (by simp[aaW]) fun i b g=>?_;simp[aaW,aaf]
theorem aeP{q:Nat}:aaW q (abP f lo lo)=aaW q f:=by
 refine List.map_congr_left fun k _=>?_;unfold abP;by_cases h:lo+1<=k;·rw[cE (show ¬k<lo+1 by omega),Bool.and_false,l6]
 rw[cE h,nz,l6]
theorem aeQ{n q:Nat}(hn:lo<=n)(hq:n+1<=q):(aaW q (abP f lo n)).set (n+1) true=aaW q (abP f lo (n+1)):=by
 refine jx (by simp[aaW]) fun i g b=>?_;have u:i<q+1:=by rw[afv]at b;exact b
 rw[List.getElem_set];simp only[aaW,List.getElem_map,List.getElem_range,abP];by_cases h:n+1=i;·rw[if_pos h,cx (show lo+1<=i by omega),cx (show i<n+1+1 by omega)];simp
 rw[if_neg h];congr 2;exact decide_eq_decide.2 pj
theorem aeR{ls:List (List Rt)}{e q:Nat}{xs:List Rt}{x:Rt}(hx:xs[i]?=some x):aaW q (abP (aaf ls e (xs.take i)) (aaL aE ls e x) (aaL ax ls e x+1))=aaW q (aaf ls e (xs.take (i+1))):=by refine List.map_congr_left fun k _=>?_;unfold abP aaf;rw[dm,hx,oV];simp only[iA,ij,mR,l6];congr 2;exact decide_eq_decide.2 pj
theorem acY{ls:List (List Rt)}{e q:Nat}(hq:ls.length=q):aaF ls e=(List.range (q+1)).filter (aaf ls e (ls.getD e [])):=by subst hq;rfl
def rkK(f:Nat->Bool)(k:Nat):List Int:=((List.range k).filter f).map Int.ofNat
theorem adJ{k:Nat}:rkK f (k+1)=rkK f k++(if f k=true then [(k:Int)]else []):=by
 unfold rkK;rw[oR,List.filter_append,ed];congr 1;by_cases h:f k=true;·rw[if_pos h,jN h];rfl
 rw[if_neg h,j0 h];rfl
theorem ace{k:Nat}:(rkK f k).length<=k:=by
 unfold rkK;rw[ck];have:=List.length_filter_le f (List.range k)
 rwa [gh]at this
theorem afw{α β:Type}{f g:α->β}{os:List α}{y:α}(hy:os[j]?=some y):((os.take j).map f++(os.drop j).map g).set j (f y)=(os.take (j+1)).map f++(os.drop (j+1)).map g:=by
 obtain⟨C,rfl⟩:=bu.1 hy;have b:((os.take j).map f).length=j:=by rw[ck,cI];omega
 rw[cL C,eV,il _ _ pj,b,gA,eM,dm,hy,ed,dz];rfl
section
open Go.RowKit Go.Shelf
theorem ad9(N:Nat):madeCells (Value.bool false).cells (N*1)=(Array.replicate N (Value.bool false)):=by
 apply ph;·simp[madeCells]
 intro i b g;exact Np
abbrev aaA(q:Nat)(f:Nat->Bool):List Value:=(aaW q f).map Value.bool
theorem aeS{ls:List (List Rt)}{e q:Nat}:(aaA q (aaf ls e [])).toArray=Array.replicate (q+1) (Value.bool false):=by unfold aaA;rw[aeO,List.map_replicate,List.toArray_replicate]
theorem afx{q:Nat}(hq:q<=1000){ls:List (List Rt)}{e:Nat}(w:World):(Instr.makeSlice 54 (.int .i64 ((q:Int)+1)) (.int .i64 ((q:Int)+1))).run prog w=.ok (.slice (some ⟨w,0,none⟩) (q+1) (q+1)) (w.alloc (.cells (aaA q (aaf ls e [])).toArray 4)):=by obtain⟨o,u,b,g,m⟩:=lB RX;have:=run_make (P:=prog) w 54 4 o false underlying54 u b .i64 .i64 ((q:Int)+1) ((q:Int)+1) pj (Int.le_refl _) (by rw[m];omega) pj;rw[this,g,aeS];have e:((q:Int)+1).toNat=q+1:=pj;simp only[e,ad9]
theorem abQ{q k:Nat}(h:k<=q):(aaA q f)[k]?=some (.bool (f k)):=by rw[cM,af4 h];rfl
theorem afy{n q:Nat}(hn:lo<=n)(hq:n+1<=q):(aaA q (abP f lo n)).set (n+1) true=aaA q (abP f lo (n+1)):=by unfold aaA;rw[<-aeQ hn hq,nA]
section
variable {F:Fence}{n:Nat}{P:Program}{Mr:List Nat}{md:Region.Mode}{ops:Array Oper}{Q:Exit→Act→World→Prop}
theorem aaG{n0:Nat}{L:Act->World->Prop}(hsel:Region.noSelect ops=true)(hdef:uh ops=true)
 (hQ:∀(i:Nat) (o:Oper),ops[i]?=some o->∀v c a w,Q (.panic c) (a.put o.dst v) w->Q (.panic c) a w) (ht:kZ md ops n0=true):
 ∀(ord:List Nat) (listed:Array Bool) (a:Act) (w:World),HeadInv md ops n0 listed->BP md ops n0 ord listed=true->jH F n P Mr ops Q L ord a w->jQ F n P Mr md ops Q n0 (fun l a w=>l=wW ord listed/\L a w) ord.length listed a w
 | [],listed,a,w,_,_,h=>⟨rfl,by unfold jH at h;exact h⟩
 |i::rest,listed,a,w,inv,hok,h=>by
  simp only[BP,cS,ef]at hok;obtain⟨⟨⟨hin,hr⟩,hk⟩,hrest⟩:=hok;have hr':i∈Region.ready md ops listed:=by simpa using hr
  have t:=inv.set hr' hin;simp only[jH]at h
  cases b:ops[i]? with
  |none=>rw[b]at h;exact h.elim
  |some o=>
   simp only[b]at h hk;have D:∀(l:Array Bool) (a:Act) (w:World),(l=wW rest (listed.setIfInBounds i true)/\L a w)->∀j∈Region.ready md ops l,n0<=j:=by
    rintro l a w ⟨rfl,_⟩ j C;have:∀(ord:List Nat) (listed:Array Bool),BP md ops n0 ord listed=true->∀j∈Region.ready md ops (wW ord listed),n0<=j:=by
     intro ord
     induction ord with
     |nil=>intro listed h j C;simp only[BP,cT]at h;simpa using h j C
     |cons k r ih=>intro listed h j C;simp only[BP,cS]at h;exact ih _ h.2 j C
    exact this rest _ hrest j C
   by_cases g:Oper.mild o=true
   ·simp only[g,mf]at h hk;have m:∃v,dw P Mr ops o v a w/\jH F n P Mr ops Q L rest (a.put o.dst v) w:=by
     by_cases I:Region.wanted o (yielded ops a.tmps)=true;·simp only[I,mf]at h;obtain⟨v,z,B⟩:=h;exact⟨v,by unfold dw;exact .inl ⟨I,z⟩,B⟩
     simp only[I]at h;exact⟨undef,by unfold dw;exact .inr ⟨by simpa using I,rfl⟩,h⟩
    obtain⟨v,m,hx⟩:=m;exact ni g b (Region.noSelect_spec hsel) hdef (fun c a w=>hQ i o b _ c a w) ht hin D _ listed a w inv (Region.free_spec b hk) hr' m (aaG hsel hdef hQ ht rest _ _ _ t hrest hx)
   ·rw[if_neg g]at h hk;refine⟨fun e=>(by rw[e]at hr';cases hr'),fun j C=>?_⟩;have E:j=i:=by simpa using cT.1 hk j C
    subst E;exact⟨hin,wpOpIn_mono (fun G w' u=>⟨u.1,aaG hsel hdef hQ ht rest _ _ _ t hrest u.2⟩) h⟩
def afz(Q:Exit->Act->World->Prop)(S:List PanicEntry->Act->World->Prop):Exit->Act->World->Prop
 | .normal,a,w=>Q .normal a w
 | .panic c,a,w=>S c a w
 |_,_,_=>False
theorem acC(Mr:List Nat){w:World}(n0 g:Nat)(ord:List Nat)(S:List PanicEntry->Act->World->Prop)(hm:P.follows .mixedOrders=true)(hok:FM ops n0 ord=true)(hg:ops.size-n0=g)
 (hS:∀(i:Nat) (o:Oper),ops[i]?=some o->∀v c a w,S c (a.put o.dst v) w->S c a w) (hQ:∀c a w,S c a w->Q (.panic c) a w)
 (h:jH F n P Mr ops (afz Q S) (fun a' w'=>wpOpsIn F n P ops Q (List.range' n0 g) a' w') ord a w.drew):(Code.region id ops true).wpIn F n P Q a w:=by
 subst hg;simp only[FM,cS,ef]at hok;obtain⟨⟨⟨⟨⟨⟨u,z⟩,h3⟩,h4⟩,h5⟩,h6⟩,h7⟩:=hok;have D:HeadInv .any ops n0 (Array.replicate ops.size false):=⟨po,fun j E _ b=>(by rw[getD_replicate_false]at b;cases b),fun t _ X=>by simp[X]⟩;have m:=aaG (F:=F) (n:=n) (P:=P) (md:=.any) (Q:=afz Q S) u z (fun i o C v c a w h=>hS i o C v c a w h) h3 ord _ a _ D h4 h;rw[h5]at m;refine wpIn_region_any hm ?_;have:=iK (g:=ops.size-n0) (fun l a w b=>by obtain⟨rfl,B⟩:=b;exact iT _ _ _ a w h7 B) _ _ _ _ (yE (Q':=Q) (fun e a w h=>by cases e<;>first|exact h|exact hQ _ _ _ h|exact h.elim) _ _ _ _ m)
 rwa [show n0+(ops.size-n0)=ops.size by omega]at this
theorem afA{k:Nat}(h:d≠some k):(a.put d v).tmps.getD k undef=a.tmps.getD k undef:=by
 cases d with
 |none=>rfl
 |some t=>have X:t≠k:=fun e=>h (by rw[e]);simp only[Act.put,mo];rw[Array.getElem?_setIfInBounds_ne X]
def aeT(C:List PanicEntry)(T:World->Prop)(D:List Deferred)(V:List (Nat×Value)):List PanicEntry->Act->World->Prop:=fun c a u=>c=C/\T u/\a.defers=D/\∀p,p∈V->a.tmps[p.1]?.getD undef=p.2
theorem aeT.put{C c:List PanicEntry}{T:World->Prop}{D:List Deferred}{V:List (Nat×Value)}{v':Value}{w:World}(hk:∀p,p∈V->d≠some p.1)(h:aeT C T D V c (a.put d v') w):aeT C T D V c a w:=by
 obtain⟨g,m,o,t⟩:=h;refine⟨g,m,?_,fun p b=>?_⟩;·cases d<;>exact o
 have h:=t p b;rw[<-mo]at h |-
 rwa [afA (hk p b)]at h
theorem ab9(Mr:List Nat){w:World}(n0 g:Nat)(ord:List Nat)(C:List PanicEntry)(T:World->Prop)(D:List Deferred)(V:List (Nat×Value))(hm:P.follows .mixedOrders=true)(hok:FM ops n0 ord=true)(hg:ops.size-n0=g)
 (hd:(ops.all fun o=>V.all fun p=>o.dst !=some p.1)=true) (hQ:∀tm u,T u->(∀p,p∈V->tm[p.1]?.getD undef=p.2)->Q (.panic C) { tmps:=tm,defers:=D } u)
 (h:jH F n P Mr ops (afz Q (aeT C T D V)) (fun a' w'=>wpOpsIn F n P ops Q (List.range' n0 g) a' w') ord a w.drew):(Code.region id ops true).wpIn F n P Q a w:=by
 refine acC Mr n0 g ord (aeT C T D V) hm hok hg (fun i o z v c a w h=>aeT.put (fun p B e=>?_) h) (fun c a w h=>?_) h;·have:=cT.1 (Array.all_eq_true_iff_forall_mem.1 hd o (Array.mem_of_getElem? z)) p B;simp[e]at this
 ·obtain⟨rfl,b,m,t⟩:=h;obtain⟨tm,E⟩:=a;subst m;exact hQ tm w b t
end
attribute [local go_sem] cX
section
variable {r:aS}{s1 s2 s3 s4 s5 s6 s7:dK}{w:World}{k e n c:Nat}{A:Option Addr}{os:List aL}{x:aJ}
theorem abp(hr:dG w [] r s1 s2 s3 s4 s5 s6 s7)(hcs:Sl aL w [] A n c os)(hg:∀y,y∈os->f_ r k (toC y)/\yI r (toC y)/\vF r k (toC y)=0)(hs:Sound r)(ht:Tab w)(hx:r.rounds[k]?=some x)(hp:x.2.2.2.2.1=false)(hf:x.2.2.2.2.2.1=false)(hlv:abd r.aT.length (aaJ r.aT.length k (au x))=true)(hcl:r.aT.length<=1000)(hkl:k<=1000)(he:e<n)(hn:n<=6):
 Calls prog 9 #[.agg (aV r s1 s2 s3 s4 s5 s6 s7).toArray,k,.slice A n c,e] w fun e' w'=>(((∀y,y∈os->aae r (toC y)<=5040)/\∃B m d,e'=.returned (.tuple #[.slice B m d,.int .i64 0])/\Sl Int w' [] B m d ((aaF (os.map fun y=>an r x (toC y)) e).map Int.ofNat))\/((∃y,y∈os/\5040<aae r (toC y))/\e'=.returned (.tuple #[.slice none 0 0,.int .i64 2])))/\Below w w w':=by
 refine wid ?_;have bs:os.length=n:=hcs.len;obtain⟨W1,b9,F1⟩:=dR ((((Fr.nil w).a w (aV r s1 s2 s3 s4 s5 s6 s7) 28).a (w+1) [e] 3).a (w+2) [.int .i64 0] 32);have o1:=aW F1;have F:=Hd F1;have HB:=Hd (abe (hr.go F1.bl) hs (tab_below ht F1.bl) pH (bu.1 hx).1);have HL:=Hd (fun(V:World) (hb:Below w w V)=>acB (hr.go hb) hs hx hp hf hlv (tab_below ht hb) pH hcl hkl);have H:=Hd7 hr hcs hg hs ht hx hp;clear F1 hr hcs hg hs ht hx hp hf hlv;refine qj func9 rfl ntmps9 ?_;have gn:((n:Nat):Int)<=4096:=pj
 gi_wp2_with (first
  |(have g:=G1.out;clear g;refine Cl 30 (aas _ _) ?_;rintro e' cp ⟨rfl,rfl⟩)
  |(refine Cl 29 HB.out ?_;rintro e' w2 ⟨rfl,bm⟩;have FO:=F.out.go bm;have o2:=aW FO;obtain⟨J,bZ,F3⟩:=dR (FO.a w2 (evV r s1 s2 s3 s4 s5 s6 s7 k) 79);have o3:=aW F3;obtain⟨w4,cn,F4⟩:=dR (F3.a J [.slice none 0 0] 82);have o4:=aW F4;replace F:=Hd F4;have cg:=FO.mJ 2;have G1:=Hd trivial;clear bm FO F3 F4)
  |fail)
 have bG:J.heap.size=w2.heap.size+1:=by rw[<-bZ];simp
 have V0:=Hd (VbR.nil (α:=OpP) (e:=85) (M:= []) (j:=0) (L:= [(w.heap.size,aV r s1 s2 s3 s4 s5 s6 s7),(w.heap.size+1, [e]),(w.heap.size+2, [.int .i64 0]),(w2.heap.size,evV r s1 s2 s3 s4 s5 s6 s7 k)]) (bl:=J.heap.size) (C:=fun v=> [v]) F.out (fun b vs hm=>by simp at hm;omega) (b_.nil _) (fun _=>rfl) (fun _ _=>rfl));have b4:=Hd bG;clear bG o1 o2 o3 o4;gi_loopw[33] (fun i wr=>∃(q:Nat) (v:Value),q<=n/\i=q/\Hid (VbR OpP 85 [] w w4 [(w,aV r s1 s2 s3 s4 s5 s6 s7),(w+1, [e]),(w+2, [.int .i64 0]),(w2,evV r s1 s2 s3 s4 s5 s6 s7 k)] J.heap.size 0 (fun v=> [v]) v ((os.take q).map fun y=>(y,([]:List fC))) wr)) (fun i _=>n-(intOf i).toNat);case atStart=>exact⟨0,_,cf _,rfl,V0⟩
 case round=>
  obtain⟨q,v,hq,rfl,T⟩:=hrel;have S:=T.out.fr;have o2:=aW S;by_cases ce:q<n
  ·obtain⟨y,N⟩:=dW os q pj;obtain⟨g1,g2,g3⟩:=H.c y (bh N);obtain⟨b,o,t1,t2,t3,t4,rfl,⟨v0,v1,v2,v3⟩,ak⟩:=H.b.abb N;have aQ:=fun{p:Addr}{u:Value}(h:w.cell? p=some u)=>(S.bl.cell (bw w p h)).trans h;replace v0:=aQ v0;replace v1:=aQ v1;replace v2:=aQ v2;replace v3:=aQ v3;obtain⟨W5,CZ,ai,F5⟩:=fP (w:=wr) ((Fr.nil wr).a wr (dI t1 t2 t3 t4) 42);have Yu:=Hd F5;have o3:=aW (S.go ai);have o4:=aW F5;have oM:=T.out.go ai;have HR:=Hd (acs (i:=k) (H.a.go oM.fr.bl) (ak.go oM.fr.bl) H.d g3 (tab_below H.e oM.fr.bl) pH);have ar:=Hd oM;have bY:os.take q++ [y]=os.take (q+1):=by rw[dm,N];rfl
   have HC:=Hd ak;have bX:(os.take q).length<=1000:=by rw[cI];omega
   clear aQ ak T S F5 ai oM N
   gi_wp2_with (first
    |(gi_at_builtin;refine c_ rfl fun K aa=>?_;refine aI _ _ _ rfl rfl rfl JR.out (aa _ _ ?_);clear aa K)
    |(refine Cl 31 HR.out ?_;rintro e' w6 ⟨rfl,ae⟩;have R:=ar.out.go ae;have o5:=aW R.fr;have o6:=aW (Yu.out.go ae);have a3:=HC.out.moreL _ R.ge;have a8:=HC.out.marks.moreL _ R.ge;rw[dx]at a3 a8;obtain⟨v',w7,r1,q1,q2,R7,b0⟩:=R.app (x:=((y, []):OpP)) (cs:=adI t1 t2 t3 t4 ⟨none,0,0⟩) underlying82 ad8 (af2 (a3.go R.fr.bl) (a8.go R.fr.bl) Sl.nil0) (by rw[ck];exact bX);obtain⟨A7,c7,rfl⟩:=R7.own.shape;obtain⟨z7,bI⟩:=aC (((os.take q).map fun y=>(y,([]:List fC)))++ [((y, []):OpP)]).length;rw[bI]at r1 R7;clear bI;have JR:=Hd r1;have bS:=Hd R7;clear ae R a3 a8 r1 R7 b0)
    |fail)
   exact⟨⟨q+1,_,pj,by go_num,Hd (by rw[<-bY,ed,nt];exact bS.out)⟩,by simp[intOf];omega⟩
  ·obtain rfl:q=n:=pj;have O:=T.out;rw[bR pj]at O;obtain⟨Av,W,rfl⟩:=O.own.shape;have a7:(os.map fun y=>(y,([]:List fC))).length=q:=by rw[ck];omega
   rw[a7]at O;have o3:=aW O.fr;have HX:=Hd (HL.out _ O.fr.bl);have bd:=Hd O;have gE:((e:Nat):Int)>=0:=pj;have gF:((e:Nat):Int)<((q:Nat):Int):=pj;clear T S o2 O
   gi_wp2_with (first
    |(have g:=G3.out;clear g;refine Cl 30 (aas _ _) ?_;rintro e' w6 ⟨rfl,rfl⟩)
    |(refine Cl 32 HX.out ?_;rintro e' w5 ⟨rfl,ai⟩;have oM:=bd.out.go ai;have o4:=aW oM.fr;have ar:=Hd oM;have G3:=Hd trivial;clear ai oM)
    |(refine⟨bO,?_⟩)
    |fail)
   clear o3 o4 HX bd;gi_loopw[59] (fun i b3=>∃j:Nat,j<=q/\i=.int .i64 j/\Hid ((∀y,y∈os.take j->aae r (toC y)<=5040))/\Hid (VbR OpP 85 [] w w4 [(w.heap.size,aV r s1 s2 s3 s4 s5 s6 s7),(w.heap.size+1, [.int .i64 e]),(w.heap.size+2, [.int .i64 0]),(w2.heap.size,evV r s1 s2 s3 s4 s5 s6 s7 k)] J.heap.size 0 (fun v=> [v]) (.slice Av q W) ((os.take j).map (fun y=>((y,(an r x (toC y)).map jd):OpP))++(os.drop j).map (fun y=>(y,([]:List fC)))) b3)) (fun i _=>q-(intOf i).toNat);case atStart=>exact⟨0,cf _,rfl,Hd (fun y N=>by rw[fT]at N;cases N),Hd (by rw[fT,fi];exact ar.out)⟩
   case round=>
    obtain⟨j,hj,rfl,a2,T⟩:=hrel;have S:=T.out.fr;have o4:=aW S;by_cases cc:j<q
    ·obtain⟨y,N⟩:=dW os j pj;obtain⟨g1,g2,g3⟩:=H.c y (bh N);have aD:((os.take j).map (fun y=>((y,(an r x (toC y)).map jd):OpP))).length=j:=by rw[ck,cI];omega
     have a4:((os.take j).map (fun y=>((y,(an r x (toC y)).map jd):OpP))++(os.drop j).map (fun y=>(y,([]:List fC))))[j]?=some (y, []):=by rw[cQ pj,aD,gA,cM,fy,eB,N];rfl
     have a6:((os.take j).map (fun y=>((y,(an r x (toC y)).map jd):OpP))++(os.drop j).map (fun y=>(y,([]:List fC)))).length=q:=by rw[cJ,aD,ck,eJ];omega
     have hO:=T.out.own;rw[a6]at hO;obtain⟨g,b7,eg⟩:=qA hO pj;cases eg;obtain⟨es,ha,hb⟩:=hO.get a4;obtain⟨c1,c2,rfl,hc,A',n',c',rfl,-⟩:=ha;obtain⟨t1,t2,t3,t4,rfl,ak⟩:=aa2 hc;have y0:=ah (show wr.cell? ⟨g,j*5,none⟩=some t1.v from(hb 0 _ rfl).1);have y1:=ah (show wr.cell? ⟨g,j*5+1,none⟩=some t2.v from(hb 1 _ rfl).1);have y2:=ah (show wr.cell? ⟨g,j*5+2,none⟩=some t3.v from(hb 2 _ rfl).1);have y3:=ah (show wr.cell? ⟨g,j*5+3,none⟩=some t4.v from(hb 3 _ rfl).1);simp only[dK.v]at y0 y1 y2 y3;have aX:∀z,z∈ [g,J.heap.size]->w.heap.size<=z/\z<wr.heap.size:=fun z G=>by simp only[cD,eo,iB]at G;have h1:=hO.lt (k:=g) rfl;have h2:=T.out.wu;have h3:=S.mJ 4;have h4:=S.ge J.heap.size [.slice (some ⟨g,0,none⟩) q W] po;rcases G with rfl|rfl<;>omega
     have bC:dG wr.drew [g,J.heap.size] r s1 s2 s3 s4 s5 s6 s7:=by have:=H.a.moreL [g,J.heap.size] (fun z G=>(aX z G).1);rw[dx]at this;exact this.go S.bl.drew
     have aU:=Hd (ab4 bC (ak.go (bL _ wr).drew) g1 g2 H.f H.z (tab_below H.e S.bl.drew) (fun z G=>(aX z G).2));have v0:=ah (S.aQ 4 0);have E:=ab7 S.drew;have HY:=oK N a4 a6 aD a7;clear aX bC ak hc hb hO N g1 g2 g3 a4 a6 aD a7;gi_wp2;refine ab9 [] 9 3 [0,1,2,3,4,5,6,7,8] [{ v:=Tj 2,recovered:=false }] (fun u=>Hid (5040<aae r (toC y))/\Hid (Below w w u)/\u.cell? ⟨w+1+1,0,none⟩=some (.int .i64 0)/\u.frozen? ⟨w+1+1,0,none⟩=false) [{ target:=.fn (.func 28) #[],args:=#[.pointer (some ⟨w+1+1,0,none⟩)] }] [(8,.slice none 0 0),(9,.pointer (some ⟨w+1+1,0,none⟩))] pk pk rfl pk (fun tm u hT h8=>?_) ?_;·obtain⟨bV,az,c3,f3⟩:=hT;refine eS (f:=28) (args:=#[.pointer (some ⟨w+1+1,0,none⟩)]) po po pB (fun _ _=>bO) ?_;refine(aan ⟨w+1+1,0,none⟩ 2 0 [] _ c3 f3).mono ?_;rintro e u' b2 ⟨rfl,rfl,rfl⟩;refine⟨.tuple #[.slice none 0 0,.int .i64 2],?_,.inr ⟨⟨y,bh HY.a,bV.out⟩,rfl⟩,az.out.setCell (p:=⟨w+1+1,0,none⟩) px _⟩;have k8:tm[8]?.getD undef=_:=h8 _ cw;have k9:tm[9]?.getD undef=_:=h8 _ (bE _ cw);simp[results,results9,go_sem,c3,k8,k9]
     refine eH ?_;refine aH fun K hK=>aA rfl rfl wy fun K' aa=>?_;gi_wp2;refine Cl 33 aU.out ?_;rintro e' w6 ⟨⟨al,A8,n8,c8,rfl,Z⟩|⟨hgt,rfl⟩,ae⟩
     ·have R:=T.out.go ((bL _ wr).drew.trans ae);obtain⟨g',b8,eg,-,-,⟨u9,p1,p2⟩,R6⟩:=R.ahu HY.b (s:=⟨A8,n8,c8⟩) Z;obtain rfl:g=g':=by
       injection eg with e1;injection e1 with e1;injection e1
      clear eg;simp only[dK.v]at R6;have bQ:=Hd R6;refine aa _ _ ⟨?_,hK _ _ ?_⟩;clear aa K' hK K;·exact bq ae _
      clear ae R R6 Z E v0 y0 y1 y2 y3 o4;refine lit ?_;refine aK ?_;refine jW fun K hK K' aa=>?_;gi_wp2;refine jW fun K hK K' aa=>?_;gi_wp2;refine jW fun K hK K' aa=>?_;gi_wp2;refine et _ ?_;gi_wp2;refine⟨⟨j+1,pj,by go_num,Hd (fun z G=>?_),Hd ?_⟩,by simp[intOf];omega⟩
      ·rw[dm,HY.a]at G;rcases cK.1 G with G|G;·exact a2.out z G
       rw[show z=y by simpa using G];exact al
      have h:=bQ.out;rw[afw (f:=fun y=>((y,(an r x (toC y)).map jd):OpP)) HY.a]at h;exact h
     have R:=(T.out.go ((bL _ wr).drew.trans ae)).fr;refine⟨rfl,⟨Hd hgt,Hd R.bl,R.aQ 2 0,R.zN 2 0⟩,rfl,fun p hp=>?_⟩;simp only[cD,eo,iB]at hp;rcases hp with rfl|rfl<;>rfl
    ·obtain rfl:j=q:=pj;obtain⟨I,rfl⟩:∃V,V=wr:=⟨_,rfl⟩;have O:=T.out;have al:os.length<=j:=pj;rw[bR al,cB al,ia,dx]at O;have bP:=Hd (show ∀y,y∈os->aae r (toC y)<=5040 from fun y N=>a2.out y (by rw[bR al];exact N));have bA:(os.map fun y=>((y,(an r x (toC y)).map jd):OpP)).length=j:=by rw[ck];exact bs
     have hO:=O.own;rw[bA]at hO;have bU:=O.hb;obtain⟨A',c',e',ay⟩:=hO.sl pj (fun z G=>by rw[bz]at G;omega);cases e';obtain⟨ls,af⟩:=aC (os.map fun y=>an r x (toC y));obtain⟨oq,aF⟩:=aC (os.map fun y=>((y,(an r x (toC y)).map jd):OpP));have bB:oq.map (·.2)=ls.map (fun l=>l.map jd):=by rw[<-af,<-aF,nF,nF];rfl
     have aY:ls.length=j:=by rw[<-af,ck];exact bs
     have bi:afu ls:=fun l hl=>by rw[<-af]at hl;obtain⟨y,N,rfl⟩:=eE.1 hl;obtain⟨g1,g2,-⟩:=H.c y N;exact⟨(aa1 g1 g2 H.f H.z).ne,fun z G=>abj g1 g2 H.f H.z G⟩
     have bk:∀i,i<ls.length->aaq (ls.getD i []):=fun i hi=>by
      rw[aY]at hi;have bp:i<os.length:=pj;obtain⟨g1,g2,-⟩:=H.c _ (fN bp);have:=aa1 g1 g2 H.f H.z
      rwa [<-af,cC,cM,cd bp]
     have br:e<os.length:=pj;obtain⟨D,aZ⟩:=aC (an r x (toC os[e]));have a_:ls[e]?=some D:=by rw[<-af,cM,cd br,<-aZ];rfl
     have bo:ls.getD e []=D:=by rw[cC,a_];rfl
     have bv:oq[e]?=some (os[e],D.map jd):=by rw[<-aF,cM,cd br,<-aZ];rfl
     rw[aF]at ay;obtain⟨ba,oa,t1,t2,t3,t4,s,rfl,⟨-,-,-,-,v4⟩,-,Z⟩:=ay.aht bv;obtain⟨As,ns,cs⟩:=s;have b6:D.length=ns:=by have:=Z.len;rwa [ck]at this
     have cm:=Z.small;obtain⟨W7,XM,ao,F7⟩:=fP (w:=I) (O.fr.a I (aaA j (aaf ls e [])) 4);have mm:=fun V=>afx (q:=j) pj (ls:=ls) (e:=e) V;have o7:=aW (O.fr.go ao);have bJ:=(ao.cell (bw I _ v4)).trans v4;simp only[dK.v]at bJ;have A7:=Hd (((ay.less (M':= []) pH).more (b:=I.heap.size) pD).go ao);have S7:=Hd (((Z.less (M':= []) pH).more (b:=I.heap.size) pD).go ao);have bb:=Hd F7;have ac:=oK bB bi bk bo af;have aO:=Hd aY;have bN:=Hd (show ∀b vs,(b,vs)∈ [(w.heap.size,aV r s1 s2 s3 s4 s5 s6 s7),(w.heap.size+1, [e]),(w.heap.size+2, [.int .i64 0]),(w2.heap.size,evV r s1 s2 s3 s4 s5 s6 s7 k),(J.heap.size, [.slice (some ⟨ba,oa,none⟩) j W])]->b<I.heap.size from fun b vs hm=>O.fr.lt b vs hm);have aU:=Hd a_;clear T O a2 bA hO ay bB bi bk a_ bo bv Z v4 ao F7 bU S ar aF af aZ aY al;have ca:=bb.out.ge I.heap.size (aaA j (aaf ls e [])) po;gi_wp2;clear o4 o7 bJ mm;gi_loopw[84] (fun i wv=>∃t:Nat,t<=ns/\i=.int .i64 t/\Hid (Fr w wv ([(w.heap.size,aV r s1 s2 s3 s4 s5 s6 s7),(w.heap.size+1, [.int .i64 e]),(w.heap.size+2, [.int .i64 0]),(w2.heap.size,evV r s1 s2 s3 s4 s5 s6 s7 k),(J.heap.size, [.slice (some ⟨ba,oa,none⟩) j W])]++ [(I.heap.size,aaA j (aaf ls e (D.take t)))]))/\Hid (Sl OpP wv [I.heap.size] (some ⟨ba,oa,none⟩) j W oq)/\Hid (SlR wv [I.heap.size] As ns cs D)) (fun i _=>ns-(intOf i).toNat);case atStart=>exact⟨0,cf _,rfl,by rw[fT];exact bb,A7,S7⟩
     case round=>
      obtain⟨t,ht,rfl,Y,hA,hS⟩:=hrel;obtain⟨V8,rfl⟩:∃V,V=wr:=⟨_,rfl⟩;have o2:=aW (Y.out.only (L':= [(w.heap.size,aV r s1 s2 s3 s4 s5 s6 s7),(w.heap.size+1, [e]),(w.heap.size+2, [.int .i64 0]),(w2.heap.size,evV r s1 s2 s3 s4 s5 s6 s7 k),(J.heap.size, [.slice (some ⟨ba,oa,none⟩) j W])]) (fun z G=>di _ G));by_cases ch:t<ns
      ·obtain⟨z,G⟩:=dW D t pj;obtain⟨b1,o1,p1,q1,A1,n1,c1,B1,m1,d1,es,⟨x0,x1,x2,x3⟩,qc⟩:=hS.out.aaV G;subst es;obtain⟨W8,bT,aj,F8⟩:=fP (w:=V8) ((Fr.nil V8).a V8 [p1,.slice A1 n1 c1,q1,.slice B1 m1 d1] 48);have aw:=Y.out.go aj;have am:=fB aw (hA.out.go aj) (hS.out.go aj);have aG:=(ac.b D (bh aU.out)).2 z (bh G);have a9:=(qc.go aj).abM (M':= []) pH;have aP:=Hd (aeL (n:=j) (c:=W) (e:=e) (ba:=J.heap.size) (be:=w.heap.size+1) (bx:=V8.heap.size) ((hA.out.go aj).less (M':= []) pH) ac.a ac.b aG pj (aw.aQ 4 0) (aw.aQ 1 0) (F8.aQ 0 0) (F8.aQ 0 1) (F8.aQ 0 2) (F8.aQ 0 3) a9);have bf:=ahg (e:=e) ac.c aG.ok;have bg:=ae9 (g:=ax) (x:=z) (show e<ls.length by rw[aO.out];exact he);rw[aO.out]at bg;obtain⟨lo,hlo⟩:=aC (aaL aE ls e z);obtain⟨hi,a5⟩:=aC (aaL ax ls e z);rw[hlo]at aP bf;rw[a5]at bf bg;have aq:=fB F8 a9 aG;have av:=fB G hlo a5;have bH:W8.heap.size=V8.heap.size+1:=by rw[<-bT];simp
       have b5:=Hd bH;clear qc F8 aw aj aG a9 Y hA hS G hlo a5 bH
       gi_wp2_with (first
        |(have g:=G5.out;clear g;refine Cl 34 aM.out ?_;rintro e' co ⟨rfl,uU⟩;have a0:=fB (ap.a.go uU) (ap.b.go uU) (ap.v.go uU);clear uU)
        |(refine Cl 34 aP.out ?_;rintro e' w9 ⟨rfl,Ns⟩;have F9:=aq.a.go Ns;have h9:=am.a.go Ns;have aM:=Hd (aeM (n:=j) (c:=W) (e:=e) (ba:=J.heap.size) (be:=w.heap.size+1) (bx:=V8.heap.size) ((am.b.go Ns).less (M':= []) pH) ac.a ac.b aq.v pj (h9.aQ 4 0) (h9.aQ 1 0) (F9.aQ 0 0) (F9.aQ 0 1) (F9.aQ 0 2) (F9.aQ 0 3) (aq.b.go Ns));rw[av.v]at aM;have ap:=fB h9 (am.b.go Ns) (am.v.go Ns);have G5:=Hd trivial;clear Ns F9 h9)
        |fail)
       clear aM aP aq am ap G5;gi_loopw[21] (fun v wv=>∃m:Nat,lo<=m/\m<=hi+1/\v=.int .i64 m/\Hid (Fr w wv ([(w.heap.size,aV r s1 s2 s3 s4 s5 s6 s7),(w.heap.size+1, [.int .i64 e]),(w.heap.size+2, [.int .i64 0]),(w2.heap.size,evV r s1 s2 s3 s4 s5 s6 s7 k),(J.heap.size, [.slice (some ⟨ba,oa,none⟩) j W])]++ [(I.heap.size,aaA j (abP (aaf ls e (D.take t)) lo m))]))/\Hid (Sl OpP wv [I.heap.size] (some ⟨ba,oa,none⟩) j W oq)/\Hid (SlR wv [I.heap.size] (some ⟨b1,o1,none⟩) ns cs D)) (fun v _=>hi+1-(intOf v).toNat);case atStart=>exact⟨lo,bj _,pj,rfl,Hd (by rw[show aaA j (abP (aaf ls e (D.take t)) lo lo)=aaA j (aaf ls e (D.take t)) by unfold aaA;rw[aeP]];exact a0.a),Hd a0.b,Hd a0.v⟩
       case round=>
        obtain⟨m,bW,ci,rfl,Y,hA,hS⟩:=hrel;by_cases cj:m<=hi;·have aB:=abQ (q:=j) (k:=m+1) (f:=abP (aaf ls e (D.take t)) lo m) pj;have bn:=(Y.out.at_ I.heap.size _ po (m+1) _ aB).1;have cb:=(Y.out.at_ I.heap.size _ po (m+1) _ aB).2;have kp:Keeps [I.heap.size] wr (wr.setCell ⟨I.heap.size,m+1,none⟩ true):=(cG _ _).setCell (p:=⟨I.heap.size,m+1,none⟩) (.inl po) _;have f2:=Fr.qY (L:= [(w.heap.size,aV r s1 s2 s3 s4 s5 s6 s7),(w.heap.size+1, [e]),(w.heap.size+2, [.int .i64 0]),(w2.heap.size,evV r s1 s2 s3 s4 s5 s6 s7 k),(J.heap.size, [.slice (some ⟨ba,oa,none⟩) j W])]) (b:=I.heap.size) (C:=aaA j (abP (aaf ls e (D.take t)) lo m)) Y.out (fun c vs hm=>Nat.ne_of_lt (bN.out c vs hm)) aB true;rw[afy bW pj]at f2;have HK:=fB f2 (hA.out.keep kp) (hS.out.keep kp);clear f2 kp aB Y hA hS;gi_wp2;exact⟨⟨m+1,pj,pj,by go_num,Hd HK.a,Hd HK.b,Hd HK.v⟩,by simp[intOf];omega⟩
        ·obtain rfl:m=hi+1:=pj;have ab:=Y.out;rw[<-av.b,<-av.v,show aaA j (abP (aaf ls e (D.take t)) (aaL aE ls e z) (aaL ax ls e z+1))=aaA j (aaf ls e (D.take (t+1))) by unfold aaA;rw[aeR av.a]]at ab;have bK:=Hd ab;clear ab Y;gi_wp2;exact⟨⟨t+1,pj,by go_num,bK,hA,hS⟩,by simp[intOf];omega⟩
      ·obtain rfl:t=ns:=pj;have ab:=Y.out;rw[bR pj]at ab;obtain⟨L6,a1⟩:=aC ([(w.heap.size,aV r s1 s2 s3 s4 s5 s6 s7),(w.heap.size+1, [.int .i64 e]),(w.heap.size+2, [.int .i64 0]),(w2.heap.size,evV r s1 s2 s3 s4 s5 s6 s7 k),(J.heap.size, [.slice (some ⟨ba,oa,none⟩) j W])]++ [(I.heap.size,aaA j (aaf ls e D))]);have bM:=Hd a1;rw[a1]at ab;have R0:=Hd (show yg (α:=Int) 3 w V8 L6 (.slice none 0 0) (rkK (aaf ls e D) 0).length (rkK (aaf ls e D) 0) V8 from⟨bD.nil _ _ _,ab,bL _ _,ab.lt,ab.bl.size⟩);clear ab a1 Y hA hS;gi_wp2;clear o2;gi_loopw[8,106] (fun v i wv=>∃m:Nat,m<=j+1/\i=m/\Hid (yg (α:=Int) 3 w V8 L6 v (rkK (aaf ls e D) m).length (rkK (aaf ls e D) m) wv)) (fun _ i _=>j+1-(intOf i).toNat);case atStart=>exact⟨0,cf _,rfl,R0⟩
       case round=>
        obtain⟨m,hm,rfl,hR⟩:=hrel;have ad:=hR.out.fr;rw[<-bM.out]at ad;by_cases cl:m<j+1
        ·have bn:=(ad.at_ I.heap.size _ po m _ (abQ (q:=j) (k:=m) (f:=aaf ls e D) pj)).1;have ag:=adJ (f:=aaf ls e D) (k:=m);obtain⟨b,hb⟩:=aC (aaf ls e D m);rw[hb]at bn ag;have hkl:=ace (f:=aaf ls e D) (k:=m)
         cases b with
         |false=>rw[if_neg po,dx]at ag;have aR:=Hd ag;clear ad ag hb hkl;gi_wp2;exact⟨⟨m+1,pj,by go_num,by rw[aR.out];exact hR⟩,by simp[intOf];omega⟩
         |true=>
          rw[if_pos rfl]at ag;obtain⟨v',wA,r1,R1⟩:=hR.out.app (x:=(m:Int)) (cs:= [m]) underlying26 RY ⟨rfl,pA⟩ pj;have HA:=Hd2 r1 R1;have aR:=Hd ag;clear ad ag hb hkl r1 R1
          gi_wp2_with (first
           |(have g:=HA;clear g;gi_at_builtin;refine c_ rfl fun K aa=>?_;have X:=HA.a;refine aI _ _ _ rfl rfl rfl X (aa _ _ ?_);clear aa K X)
           |fail)
          exact⟨⟨m+1,pj,by go_num,Hd (by rw[aR.out,cJ];exact HA.u)⟩,by simp[intOf];omega⟩
        ·obtain rfl:m=j+1:=pj;have hkl:=ace (f:=aaf ls e D) (k:=j+1);obtain⟨B,d,rfl,Z⟩:=hR.out.sl pj;have az:=ad.bl;have c2:wr.cell? ⟨w+1+1,0,none⟩=some (.int .i64 0):=ad.aQ 2 0;have q0:=aN c2;have f2:wr.frozen? ⟨w+1+1,0,none⟩=false:=ad.zN 2 0;have bF:rkK (aaf ls e D) (j+1)=(aaF (os.map fun y=>an r x (toC y)) e).map Int.ofNat:=by
          rw[ac.x,acY aO.out,ac.d];rfl
         obtain⟨nl,bt⟩:=aC (rkK (aaf ls e D) (j+1)).length;rw[bt]at Z |-;rw[bF]at Z;have bc:=Hd2 Z az;clear ad hR hkl Z bF az bt;gi_wp2;try rw[q0]
         refine eS (f:=28) (args:=#[.pointer (some ⟨w+1+1,0,none⟩)]) po po pB (fun _ _=>bO) ?_;refine(abJ ⟨w+1+1,0,none⟩ _).mono ?_;rintro e1 u' b2 ⟨rfl,rfl,rfl⟩;refine⟨.tuple #[.slice B nl d,.int .i64 0],?_,.inl ⟨bP.out,_,_,_,rfl,bc.a⟩,bc.u⟩;simp[results,results9,go_sem,c2]
end
end
