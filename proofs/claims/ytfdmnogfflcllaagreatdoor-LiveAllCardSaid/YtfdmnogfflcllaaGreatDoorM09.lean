/- Lemmas -/
import Derived.Lib.ItoaNum
import Derived.Test.YtfdmnogfflcllaaGreatDoorM07
import Derived.Test.YtfdmnogfflcllaaGreatDoorM08
set_option linter.all false
set_option maxRecDepth 100000
set_option maxHeartbeats 0
namespace Go.Proofs.YtfdmnogfflcllaaGreatDoor
open Go.Proofs.Tryz Go.RowKit Go.Shelf
theorem akJ{p:Prop}(h:p:=by gi_wp2;exact⟨⟨i,_,_,_,_,pj,rfl,Wu.a,Wu.u⟩,by simp[intOf]⟩):p:=h
theorem rZ{p:Prop}(h:p:=by
 gi_wp2;refine ak [] (List.range 38) pk pk ?_;simp only[show List.range 38= [0,1,2,3,4,5,6,7,8,9,10,11,12,13,14,15,16,17,18,19,20,21,22,23,24,25,26,27,28,29,30,31,32,33,34,35,36,37]from rfl];refine eH ?_;refine aK ?_;refine lit ?_;gi_wp2;have be:=Hd aM.out.drew;obtain⟨F,hF⟩:=aC ((List.range k).map (fun j=>(aB ws j:Int)-(r:Int)*(aB (bC (y*2^s)) j:Int)));have cv:F.length=k:=by rw[<-hF];simp
 have HF:=Hd hF;clear hF q1 s1 s2 s3 f1 f2 f3 f4 aM;gi_loopw[13,121] (fun o v wr=>∃(m:Nat) (L:List Nat) (I:Int),m<=k/\o=.int .i64 I/\v=.int .i64 m/\ -8589934592<=I/\I<=8589934592/\Hid (rY F m L I)/\Hid (LS w W4 wr g S.heap.size cc n (RR a0 (L++ws.drop m) (t:Int) rest) Q)) (fun _ v _=>k-(intOf v).toNat);case atStart=>exact⟨0, [],0,cf _,rfl,rfl,pj,pj,rY.start F,be.out⟩
 case round=>
  obtain⟨m,L,I,hm,rfl,rfl,br,bs,hC,ae⟩:=hrel;by_cases aF:m<k
  ·obtain⟨C,ab⟩:=dW ws m (by rw[W.e];exact aF);have OZ:=g_ (W.f C (bh ab));obtain⟨bv,ov,vm,Tf,al,O1,aN,Ec⟩:=(V.a.keep ae.out.kp).mG (aO _) aF;cases Tf;rw[dC]at al;have ay:(L++ws.drop m)[m]?=some C:=by
    rw[cQ (by rw[hC.b];exact bj _),hC.b,gA,fy,eB];exact ab
   have ag:wr.cell? ⟨g,i+m,none⟩=some (.int .i64 (C:Int)):=ae.out.u.cell (wE W.c ay);have aw:F[m]?=some ((C:Int)-(r:Int)*(vm:Int)):=by rw[<-HF.out,cM,ik aF];simp only[gw,Ec];rw[show aB ws m=C by simp[aB,List.getD,ab]]
   obtain⟨f1,f2,f3,f4,f5⟩:=Ea bo OZ O1 br bs;have aD:=hC.out.step aw;have az:(L++ws.drop m).set m (((C:Int)-(r:Int)*(vm:Int)+I)% (BB:Int)).toNat=(L++ [(((C:Int)-(r:Int)*(vm:Int)+I)% (BB:Int)).toNat])++ws.drop (m+1):=set_mid hC.b (by rw[W.e];exact aF) _;have p:=ae.out.drew.FB pj aE (i+m) ((((C:Int)-(r:Int)*(vm:Int)+I)% (BB:Int)).toNat:Int);rw[rH W.c (by rw[cJ,hC.b,eJ,W.e];omega),az,km (mn _ pt)]at p;have au:=Hd2 aD p;have s1:=ah ag;have s2:=ah al;have y1:wr.drew.cell? ⟨g,i+m,none⟩=some (.int .i64 (C:Int)):=ag;have y2:wr.drew.frozen? ⟨g,i+m,none⟩=false:=ae.out.u.free _;have g1:IntKind.i64.wrap ((i:Int)+(m:Int))=(i:Int)+(m:Int):=by rw[cA];omega
   have g2:(0:Int)<=(i:Int)+(m:Int):=pj;have g3:(i:Int)+(m:Int)<(n:Int)+1:=pj;have g4:((i:Int)+(m:Int)).toNat=i+m:=pj;have bE:=qL ((C:Int)-(r:Int)*(vm:Int)+I);have Ws:=Hd2 f4 f5;clear aD az p ab aN Ec ay ag aw al f4 f5;gi_wp2;refine ak [] (List.range 16) pk pk ?_;simp only[show List.range 16= [0,1,2,3,4,5,6,7,8,9,10,11,12,13,14,15]from rfl];refine eH ?_;refine aK ?_;refine lit ?_;gi_wp2;exact⟨⟨m+1,_,_,pj,rfl,by go_num,Ws.a,Ws.u,au.a,au.u⟩,by simp[intOf];omega⟩
  ·have ar:k=m:=pj;subst ar;have ac:aY F 0=(L,I):=by
    have h:=hC.a;rw[cB pj]at h;simpa[aY]using h
   have aa:=hC.b;have Ti:=hC.v;have af:=ae.out;rw[cB (by rw[W.e];exact bj _),dx]at af;have av:(List.range (bC (y*2^s)).length).map (fun j=>(aB ws j:Int)-(r:Int)*(aB (bC (y*2^s)) j:Int))=F:=by rw[P.c];exact HF.out
   have bk:wr.cell? ⟨g,i+k,none⟩=some (.int .i64 (t:Int)):=af.u.cell (zA W.c aa);have bn:wr.frozen? ⟨g,i+k,none⟩=false:=af.u.free _;have bp:i<n-k+1:=by have:=hI.out.jl;omega
   have an:val (dd::rs)=val (ws++ [t]):=by rw[W.d]
   have am:val (bC (y*2^s))=y*2^s:=bI _;obtain⟨OV,ai⟩:=dW Q i (by rw[hI.out.ql];exact bp);have g2:(0:Int)<=(i:Int)+(k:Int):=pj;by_cases aJ:(t:Int)+I<0
   ·obtain⟨d0,d1,J,R⟩:=D6 (us:=ws++ [t]) (vs:=bC (y*2^s)) (ws:=ws) (t:=t) (g:=r) rfl (by rw[W.e,P.c]) (aO _) HN.out (m:=L) (o:=I) (by rw[av];exact ac) aJ;rw[P.c]at J R;obtain⟨F2,ap⟩:=aC ((List.range k).map (fun j=>(aB L j:Int)+(aB (bC (y*2^s)) j:Int)));rw[ap]at J R;have cr:F2.length=k:=by rw[<-ap];simp
    have bF:IntKind.i64.wrap ((t:Int)+I)=(t:Int)+I:=by rw[cA];omega
    have cR:IntKind.i64.wrap ((r:Int)-1)=((r-1:Nat):Int):=by rw[cA];omega
    have p:=af.FB pj aE (i+k) ((t:Int)+I);rw[lJ W.c aa]at p;have D:=Hd (And.intro d0 (And.intro d1 (And.intro J (And.intro R (And.intro ap (And.intro aa (And.intro Ti (And.intro an (And.intro am (And.intro ai (And.intro p bn)))))))))));have q3:decide ((t:Int)+I<0)=true:=cx aJ;clear p d0 d1 J R ap aa Ti an am ac av hC ae af ai;gi_wp2;gi_loopw[16,169] (fun o v wr=>∃(m:Nat) (ao:List Nat) (o2:Int),m<=k/\o=.int .i64 o2/\v=.int .i64 m/\ -8589934592<=o2/\o2<=8589934592/\Hid (rY F2 m ao o2)/\Hid (LS w W4 wr g S.heap.size cc n (RR a0 (ao++L.drop m) ((t:Int)+I) rest) Q)) (fun _ v _=>k-(intOf v).toNat);case atStart=>exact⟨0, [],0,cf _,rfl,rfl,pj,pj,rY.start F2,D.out.2.2.2.2.2.2.2.2.2.2.1⟩
    case round=>
     obtain⟨m,ao,o2,cD,rfl,rfl,bt,bu,Z,aq⟩:=hrel;by_cases aG:m<k
     ·obtain⟨C,ab⟩:=dW L m (by rw[D.f];exact aG);have OZ:=g_ (D.out.2.2.2.2.2.2.1 C (bh ab));obtain⟨bv,ov,vm,Tf,al,O1,aN,Ec⟩:=(V.a.keep aq.out.kp).mG (aO _) aG;cases Tf;rw[dC]at al;have ay:(ao++L.drop m)[m]?=some C:=by
       rw[cQ (by rw[Z.b];exact bj _),Z.b,gA,fy,eB];exact ab
      have ag:wr.cell? ⟨g,i+m,none⟩=some (.int .i64 (C:Int)):=aq.out.u.cell (wE W.c ay);have aw:F2[m]?=some ((C:Int)+(vm:Int)):=by rw[<-D.e,cM,ik aG];simp only[gw,Ec];rw[show aB L m=C by simp[aB,List.getD,ab]]
      obtain⟨f1,f2,f4,f5⟩:=Eb OZ O1 bt bu;have aD:=Z.out.step aw;have az:(ao++L.drop m).set m (((C:Int)+(vm:Int)+o2)% (BB:Int)).toNat=(ao++ [(((C:Int)+(vm:Int)+o2)% (BB:Int)).toNat])++L.drop (m+1):=set_mid Z.b (by rw[D.f];exact aG) _;have p:=aq.out.drew.FB pj aE (i+m) ((((C:Int)+(vm:Int)+o2)% (BB:Int)).toNat:Int);rw[rH W.c (by rw[cJ,Z.b,eJ,D.f];omega),az,km (mn _ pt)]at p;have au:=Hd2 aD p;have s1:=ah ag;have s2:=ah al;have y1:wr.drew.cell? ⟨g,i+m,none⟩=some (.int .i64 (C:Int)):=ag;have y2:wr.drew.frozen? ⟨g,i+m,none⟩=false:=aq.out.u.free _;have g1:IntKind.i64.wrap ((i:Int)+(m:Int))=(i:Int)+(m:Int):=by rw[cA];omega
      have cu:(0:Int)<=(i:Int)+(m:Int):=pj;have g3:(i:Int)+(m:Int)<(n:Int)+1:=pj;have g4:((i:Int)+(m:Int)).toNat=i+m:=pj;have bE:=qL ((C:Int)+(vm:Int)+o2);have Ws:=Hd2 f4 f5;clear aD az p ab aN Ec ay ag aw al f4 f5;gi_wp2;refine ak [] (List.range 14) pk pk ?_;simp only[show List.range 14= [0,1,2,3,4,5,6,7,8,9,10,11,12,13]from rfl];refine eH ?_;refine aK ?_;refine lit ?_;gi_wp2;exact⟨⟨m+1,_,_,pj,rfl,by go_num,Ws.a,Ws.u,au.a,au.u⟩,by simp[intOf];omega⟩
     ·have ar:k=m:=pj;subst ar;have ac:aY F2 0=(ao,o2):=by
       have h:=Z.a;rw[cB pj]at h;simpa[aY]using h
      have ax:=aq.out;rw[cB (by rw[D.f];exact bj _),dx]at ax;obtain⟨d0,d1,J,R,ap,aa,Ti,an,am,ai,-,-⟩:=D.out;rw[ac]at J R;rw[am,<-an]at d1 J;simp only at J R;have cs:wr.cell? ⟨g,i+k,none⟩=some (.int .i64 ((t:Int)+I)):=ax.u.cell (zA W.c Z.b);have ct:wr.frozen? ⟨g,i+k,none⟩=false:=ax.u.free _;have cS:IntKind.i64.wrap ((t:Int)+I+o2)=0:=by rw[R];rfl
      have p:=ax.FB pj aE (i+k) 0;rw[lJ W.c Z.b,BK]at p;have z1:(wr.setCell ⟨g,i+k,none⟩ (.int .i64 0)).cell? ⟨S,i,none⟩=some (.int .i64 (OV:Int)):=p.q.cell (jK ai);have z2:(wr.setCell ⟨g,i+k,none⟩ (.int .i64 0)).frozen? ⟨S,i,none⟩=false:=p.q.free _;have tJ:=p.YG ba bc i (r-1);obtain⟨aj,-⟩:=hI.out.step W.b W.c J Z.b Z.v V.u W.out.2.2.2.2.2.2.2.1;rw[<-d1]at aj;have Wu:=Hd2 aj tJ;clear aj p tJ ac ax d0 d1 J R ap aa Ti an am ai Z aq D;exact akJ
   obtain⟨d1,J,R⟩:=zW (us:=ws++ [t]) (vs:=bC (y*2^s)) (ws:=ws) (t:=t) (g:=r) rfl (by rw[W.e,P.c]) (aO _) (by rw[bI];exact V.u) hG.a (by rw[av,ac];exact Int.not_lt.1 aJ);rw[av,ac]at J R;rw[am,<-an]at d1 J;simp only at J R;have bF:IntKind.i64.wrap ((t:Int)+I)=0:=by rw[R];rfl
   have p:=af.FB pj aE (i+k) 0;rw[lJ W.c aa,BK]at p;have z1:(wr.setCell ⟨g,i+k,none⟩ (.int .i64 0)).cell? ⟨S,i,none⟩=some (.int .i64 (OV:Int)):=p.q.cell (jK ai);have z2:(wr.setCell ⟨g,i+k,none⟩ (.int .i64 0)).frozen? ⟨S,i,none⟩=false:=p.q.free _;have tJ:=p.YG ba bc i r;obtain⟨aj,-⟩:=hI.out.step W.b W.c J aa Ti V.u W.out.2.2.2.2.2.2.2.1;rw[<-d1]at aj;have Wu:=Hd2 aj tJ;clear aj p tJ ac av af d1 J R aa Ti an am ai aJ hC ae;exact akJ):p:=h
variable {x b n m base d y s X qb cc:Nat}{M Q:List Nat}{v:Value}{xs T:List Int}{W W4:World}{o:Int}
section
attribute [local go_sem] cX
def Rw(w:World)(g N cap:Nat)(l:List Int):Prop:=w.ownsRow 0 3 1 (.slice (some ⟨g,0,none⟩) N cap) N (l.map (Value.int .i64))
section
variable {w w':World}{g N cap:Nat}{l:List Int}
theorem Rw.len(h:Rw w g N cap l):l.length=N:=by simpa using h.1
theorem Rw.cell(h:Rw w g N cap l){k:Nat}{x:Int}(hk:l[k]?=some x):w.cell? ⟨g,k,none⟩=some (.int .i64 x):=by
 have r:k<N:=by rw[<-h.len];exact(bu.1 hk).1
 rw[World.ownsRow.cellAt h k pj,cM,hk];rfl
theorem Rw.free(h:Rw w g N cap l)(k:Nat):w.frozen? ⟨g,k,none⟩=false:=World.ownsRow.frozenAt h k
theorem Rw.put(h:Rw w g N cap l)(k:Nat)(x:Int):Rw (w.setCell ⟨g,k,none⟩ x) g N cap (l.set k x):=by unfold Rw;rw[nA];exact(World.ownsRow.stored h k _).1
theorem Rw.uw(h:Rw w g N cap l)(hb:g≠b)(k:Nat)(u:Value):Rw (w.setCell ⟨b,k,none⟩ u) g N cap l:=qp h (fun q hq _=>by have e:g=q:=fk hq;subst e;exact jn w _ _ g hb)
theorem Rw.go(h:Rw w g N cap l)(hb:Below w w w'):Rw w' g N cap l:=qp h (fun q _ hl=>hb.block q hl)
theorem Rw.sl(h:Rw w g N cap l)(hM:g∉M)(hs:N<=1000000)(hi:∀x,x∈l->i64 x):Sl Int w M (some ⟨g,0,none⟩) N cap l:=by
 rcases h.2 with⟨e,_⟩|⟨r,i,q,e,-,-,f,c,-,-⟩;·cases e
 cases e;refine⟨h.len,f,by simpa[jG,maxLen]using c,pj,.inr ⟨g,0,rfl,fun k x a=>⟨_,⟨rfl,hi x (bh a)⟩,hM,fun j u p=>?_⟩⟩⟩
 match j,p with
 |0,p=>cases p;simpa[show Rep.sz Int=1 from rfl]using h.cell a
theorem Rw.cut(h:w.ownsRow base 3 1 v n (xs.map (Value.int .i64)))(hv:v=.slice (some ⟨g,0,none⟩) n cap)(hm:m<=n):Rw w g m cap (xs.take m):=by
 rcases h.2 with⟨e,_⟩|⟨q,p,a,e,hb,f,r,c,i,j⟩;·rw[e]at hv;cases hv
 rw[e]at hv;cases hv;refine⟨?_,.inr ⟨g,cap,a,rfl,cf _,f,pj,c,i,?_⟩⟩;·rw[ck,cI];have:=h.1;rw[ck]at this;omega
 rw[List.map_take,<-j,List.take_take,gP,gP,gC hm]
end
theorem Wj(h0:0<d)(h1:d<=1073741823):∃s:Nat,s<=29/\(64-(Lib.bitLen d:Int))-34=(s:Int)/\(d+1)*2^s<=BB/\1<=Lib.bitLen d/\Lib.bitLen d<=30:=by
 have hb:=Lib.bitLenAux_bounds 64 d pj pj;have c:=Lib.bitLen_le d 30 pj pj;have e:Lib.bitLen d=Lib.bitLenAux 64 d:=rfl;rw[e]at c |-;generalize Lib.bitLenAux 64 d=L at*
 refine⟨30-L,pj,pj,?_,hb.1,c⟩;have a:(d+1)*2^(30-L)<=2^L*2^(30-L):=dy _ hb.2.2;rw[<-Nat.pow_add,show L+(30-L)=30 by omega]at a;exact a
theorem Tc{k:Nat}(hk:(bC y).length=k)(hk0:0<k)(hd:(bC y)[k-1]?=some d)(hs:(d+1)*2^s<=BB):(bC (y*2^s)).length=k:=by
 have i:(bC (y*2^s)).length<=k:=by
  rw[<-lY];have e:=l7 hd;rw[show k-1+1=k by omega,bR pj,bI]at e;have a:=jh _ (lD (aO y) (k-1));rw[cI,gC pj]at a;have c:y<BB^(k-1)*(d+1):=by rw[gO,gP];omega
  have F:y*2^s<BB^(k-1)*(d+1)*2^s:=Nat.mul_lt_mul_of_pos_right c (oS pt);have f:BB^(k-1)*((d+1)*2^s)<=BB^(k-1)*BB:=mK _ hs;rw[<-lR,show(k-1).succ=k by omega,<-gL]at f;omega
 have a:(bC y).length<=(bC (y*2^s)).length:=kR (mT _ (oS pt));omega
theorem OW(hn:(bC x).length=n)(hs:s<=29):n<=(bC (x*2^s)).length/\(bC (x*2^s)).length<=n+1:=by
 constructor;·rw[<-hn];exact kR (mT _ (oS pt))
 rw[<-lY,lR];have a:x<BB^n:=(lY x n).2 pj;exact Nat.mul_lt_mul_of_lt_of_le a (OU hs) eX
theorem Wn(h:W.ownsRow base 3 1 v n (xs.map (Value.int .i64)))(hb:base<=W.heap.size)(hn:n<=1000000000):
 ∃g cc W',(Builtin.append_ #[190,190] 190 #[v,.slice (some ⟨W,0,none⟩) 2 2]).run prog (W.alloc (.cells #[.int .i64 0,.int .i64 0] 3))=.ok (.slice (some ⟨g,0,none⟩) (n+2) cc) W'/\W'.ownsRow base 3 1 (.slice (some ⟨g,0,none⟩) (n+2) cc) (n+2) ((xs++ [0,0]).map (Value.int .i64))/\Below base W W'/\(∀b,b<W.heap.size->v.ownBlock≠some b->W'.heap[b]?=W.heap[b]?)/\(v.ownBlock=some g\/W.heap.size<g)/\n+2<=cc:=by
 obtain⟨G,z,D,E,F⟩:=lB qo;obtain⟨K,w',f,a,c,_,q⟩:=mw (P:=prog) (W.alloc (.cells #[.int .i64 0,.int .i64 0] 3)) base 190 190 3 G (.int .i64 0) 1 8 underlying190 z D E F rfl pt v n _ (h.alloc _) ⟨W,0,none⟩ 2 2 [.int .i64 0,.int .i64 0] rfl (by intro j u p;match j,p with|0,p=>(cases p;simp[go_sem,Addr.add])|1,p=>(cases p;simp[go_sem,Addr.add])) (by simp[Value.oneCell']) (by unfold maxLen;omega) pj px;obtain⟨g,cc,rfl⟩:=ownsRow_succ (k:=n+1) a;have i:w'.ownsRow base 3 1 (.slice (some ⟨g,0,none⟩) (n+2) cc) (n+2) ((xs++ [0,0]).map (Value.int .i64)):=by rw[ed];exact a
 refine⟨g,cc,w',f,i,((bL base W).alloc hb _).grown c px (fun k A=>(h.lt k A).1),fun b r C=>?_,?_,?_⟩;·exact(c.block b px (fun e=>C e.symm)).trans (mI W _ b r)
 ·rcases q with e|e;·left;rw[<-e];rfl
  right;have O:g=(W.alloc (.cells #[.int .i64 0,.int .i64 0] 3)).heap.size:=fk e;rw[O];simp
 ·rcases a.2 with⟨e,_⟩|⟨J,H,I,e,-,-,B,-⟩;·cases e
  cases e;exact B
theorem aia:BB=1073741824:=rfl
theorem OX{t u1 v1:Nat}(ht:t<=1073741823)(hu:u1<=1073741823):∃hd dq g0:Nat,(hd=t*BB+u1/\dq=hd/v1/\g0=min (hd/v1) (BB-1))/\bits .or .i64 ((t:Int)*1073741824) (u1:Int)=(hd:Int)/\hd<=1152921504606846975/\
 min (dq:Int) 1073741823=(g0:Int)/\IntKind.i64.wrap (dq:Int)=(dq:Int)/\((hd:Int)).tdiv (v1:Int)=(dq:Int)/\IntKind.i64.wrap ((t:Int)*1073741824)=(t:Int)*1073741824:=by
 refine⟨t*1073741824+u1,(t*1073741824+u1)/v1,min ((t*1073741824+u1)/v1) 1073741823,⟨rfl,rfl,rfl⟩,?_,pj,?_,?_,(Int.ofNat_tdiv _ _).symm,?_⟩;·rw[Jv ht hu];omega
 ·omega
 ·have h:=oT (t*1073741824+u1) v1;have a:t*1073741824+u1<=1152921504606846975:=pj;generalize (t*1073741824+u1)/v1=q at*;generalize t*1073741824+u1=r at*;rw[cA];omega
 ·rw[cA];omega
theorem OY{hd g v1 v2 u2:Nat}(hh:hd<=1152921504606846975)(hg:g<=1073741823)(h1:v1<=1073741823)(h2:v2<=1073741823)(hu:u2<=1073741823)(hle:g*v1<=hd):∃(X:Nat) (Y:Int),X=hd-g*v1/\IntKind.i64.wrap ((hd:Int)-(g:Int)*(v1:Int))=(X:Int)/\
 IntKind.i64.wrap ((g:Int)*(v1:Int))=(g:Int)*(v1:Int)/\IntKind.i64.wrap ((g:Int)*(v2:Int))=(g:Int)*(v2:Int)/\bits .or .i64 (IntKind.i64.wrap ((X:Int)*1073741824)) (u2:Int)=Y/\(X<=1073741823->Y=((X*BB+u2:Nat):Int)):=by
 have a1:g*v1<=1073741823*1073741823:=fS hg h1;have a2:g*v2<=1073741823*1073741823:=fS hg h2;have H:(g:Int)*(v1:Int)=((g*v1:Nat):Int):=(eI ..).symm;have O:(g:Int)*(v2:Int)=((g*v2:Nat):Int):=(eI ..).symm;rw[H,O];generalize g*v1=p at*
 generalize g*v2=q at*
 refine⟨hd-p,_,rfl,?_,?_,?_,rfl,fun a=>?_⟩;·rw[cA];omega
 ·rw[cA];omega
 ·rw[cA];omega
 ·generalize hd-p=X at*
  have I:IntKind.i64.wrap ((X:Int)*1073741824)=(X:Int)*1073741824:=by rw[cA];omega
  rw[I,Jv a hu,aia];omega
structure GS(us vs:List Nat)(k t u1 u2 v1 v2:Nat):Prop where
 gu:Good us
 gv:Good vs
 a2:us[k-2]?=some u2
 a1:us[k-1]?=some u1
 a0:us[k]?=some t
 lu:us.length=k+1
 b2:vs[k-2]?=some v2
 b1:vs[k-1]?=some v1
 lv:vs.length=k
 pv:0<v1
 V0:0<val vs
 lt:val us<BB*val vs
 k2:2<=k
section
variable {us vs:List Nat}{k t u1 u2 v1 v2:Nat}
theorem GS.start(h:GS us vs k t u1 u2 v1 v2):lZ us vs (min ((t*BB+u1)/v1) (BB-1))/\min ((t*BB+u1)/v1) (BB-1)*v1<=t*BB+u1:=by have e:=h.k2;refine⟨ado (j:=k-2) h.gu h.gv (by rw[show k-2+1=k-1 by omega];exact h.a1) (by rw[show k-2+2=k by omega];exact h.a0) (by rw[h.lu];omega) (by rw[show k-2+1=k-1 by omega];exact h.b1) (by rw[h.lv];omega) h.pv h.lt,?_⟩;exact cF (dy _ (Nat.min_le_left _ _)) (Nat.div_mul_le_self _ _)
theorem GS.less(h:GS us vs k t u1 u2 v1 v2){g:Nat}(hg:lZ us vs g)(hle:g*v1<=t*BB+u1)(hX:X=t*BB+u1-g*v1)(ht:X*BB+u2<g*v2):1<=g/\lZ us vs (g-1)/\(g-1)*v1<=t*BB+u1:=by
 have c:=h.k2;subst hX;have a:=(D5 (v2:=v2) (u2:=u2) hle).1 ht;refine⟨?_,OI (j:=k-2) h.gu h.gv h.a2 (by rw[show k-2+1=k-1 by omega];exact h.a1) (by rw[show k-2+2=k by omega];exact h.a0) (by rw[h.lu];omega) h.b2 (by rw[show k-2+1=k-1 by omega];exact h.b1) (by rw[h.lv];omega) h.V0 hg a,?_⟩
 ·rcases eC g with e|e;·subst e;simp at ht
  exact e
 exact cF (dy _ (Nat.sub_le _ _)) hle
theorem GS.done(h:GS us vs k t u1 u2 v1 v2){g:Nat}(hg:lZ us vs g)(hle:g*v1<=t*BB+u1)(hX:X=t*BB+u1-g*v1)(ht:BB-1<X\/g*v2<=X*BB+u2):g*val vs<=val us+val vs:=by
 have a:=h.k2;subst hX;refine OJ (j:=k-2) h.gu h.gv h.a2 (by rw[show k-2+1=k-1 by omega];exact h.a1) (by rw[show k-2+2=k by omega];exact h.a0) (by rw[h.lu];omega) h.b2 (by rw[show k-2+1=k-1 by omega];exact h.b1) (by rw[h.lv];omega) h.pv hg ?_;rcases ht with ht|ht;·exact SN hg.small (h.gv v2 (bh h.b2)) hle ht
 exact Nat.not_lt.1 (fun e=>absurd ((D5 (v2:=v2) (u2:=u2) hle).2 e) (Nat.not_lt.2 ht))
end
theorem Ea{g w v:Nat}(hg:g<=1073741823)(hw:w<=1073741823)(hv:v<=1073741823)(h1: -8589934592<=o)(h2:o<=8589934592):IntKind.i64.wrap ((g:Int)*(v:Int))=(g:Int)*(v:Int)/\IntKind.i64.wrap ((w:Int)-(g:Int)*(v:Int))=(w:Int)-(g:Int)*(v:Int)/\
 IntKind.i64.wrap ((w:Int)-(g:Int)*(v:Int)+o)=(w:Int)-(g:Int)*(v:Int)+o/\ -8589934592<=((w:Int)-(g:Int)*(v:Int)+o)/1073741824/\((w:Int)-(g:Int)*(v:Int)+o)/1073741824<=8589934592:=by
 have a1:g*v<=1073741823*1073741823:=fS hg hv;have H:(g:Int)*(v:Int)=((g*v:Nat):Int):=(eI ..).symm;rw[H];generalize g*v=p at*
 refine⟨?_,?_,?_,pj,pj⟩;·rw[cA];omega
 ·rw[cA];omega
 ·rw[cA];omega
theorem Eb{w v:Nat}(hw:w<=1073741823)(hv:v<=1073741823)(h1: -8589934592<=o)(h2:o<=8589934592):IntKind.i64.wrap ((w:Int)+(v:Int))=(w:Int)+(v:Int)/\IntKind.i64.wrap ((w:Int)+(v:Int)+o)=(w:Int)+(v:Int)+o/\
 -8589934592<=((w:Int)+(v:Int)+o)/1073741824/\((w:Int)+(v:Int)+o)/1073741824<=8589934592:=by
 refine⟨?_,?_,pj,pj⟩;·rw[cA];omega
 ·rw[cA];omega
theorem set_mid{ms ws:List Nat}(hm:ms.length=m)(hw:m<ws.length)(d:Nat):(ms++ws.drop m).set m d=(ms++ [d])++ws.drop (m+1):=by subst hm;rw[il _ _ pD,gA,cL hw,eM];simp
theorem Row.own{w:World}{k:Nat}{l:List Int}(h:Row w b l)(hb:base<=b)(hk:k<=n)(hl:l.length=n)(hn:n<=1000000):w.ownsRow base 3 1 (.slice (some ⟨b,0,none⟩) k n) k ((l.take k).map (Value.int .i64)):=by refine⟨by simp[hl];omega,.inr ⟨b,n,_,rfl,hb,h,hk,by simp[maxLen];omega,by simp[hl],?_⟩⟩;rw[List.map_take,gP]
structure LS(w W4 W:World)(g qb cc n:Nat)(T:List Int)(Q:List Nat):Prop where
 u:Rw W g (n+1) cc T
 q:Row W qb (ints Q)
 kp:Keeps [g,qb] W4 W
 bl:Below w w W
theorem LS.drew{w W4 W:World}{g qb cc n:Nat}{T:List Int}{Q:List Nat}(h:LS w W4 W g qb cc n T Q):LS w W4 W.drew g qb cc n T Q:=⟨h.u,h.q,h.kp.drew,h.bl.drew⟩
theorem LS.FB{w:World}{g:Nat}(h:LS w W4 W g qb cc n T Q)(hne:qb≠g)(hg:w.heap.size<=g)(j:Nat)(x:Int):LS w W4 (W.setCell ⟨g,j,none⟩ x) g qb cc n (T.set j x) Q:=⟨h.u.put j x,h.q.uw hne j _,h.kp.setCell (p:=⟨g,j,none⟩) (.inl po) _,h.bl.setCell (p:=⟨g,j,none⟩) hg _⟩
theorem LS.YG{w:World}{g:Nat}(h:LS w W4 W g qb cc n T Q)(hne:g≠qb)(hg:w.heap.size<=qb)(j:Nat)(x:Nat):LS w W4 (W.setCell ⟨qb,j,none⟩ (.int .i64 (x:Int))) g qb cc n T (Q.set j x):=⟨h.u.uw hne j _,by have:=h.q.put j (x:Int);rwa [ints_set]at this,h.kp.setCell (p:=⟨qb,j,none⟩) (.inl po) _,h.bl.setCell (p:=⟨qb,j,none⟩) hg _⟩
theorem Wp{A B:Option Addr}{c k:Nat}{w:World}(hM:b_ M w)(hx:Sl Int w M A n c (ints (bC x)))(hy:Sl Int w M B k d (ints (bC y)))(hn:n<=4990)(hk2:2<=k)(hkn:k<=n):
 Calls prog 228 #[.slice A n c,.slice B k d] w fun e w'=>∃O q cO O2 q2 Z7,e=.returned (.tuple #[.slice O q cO,.slice O2 q2 Z7])/\Sl Int w' M O q cO (ints (bC (x/y)))/\Sl Int w' M O2 q2 Z7 (ints (bC (x%y)))/\Below w w w':=by
 refine wid ?_;have H:=Hd (hx.less (M':= []) po);have G:=Hd (hy.less (M':= []) po);have HM:=Hd hM;have l1:=hx.eu;have l2:=hy.eu;have c3:=hy.small;obtain⟨b0,o0,dt,rfl,bk,bN,bm,-⟩:=hy.mG (aO y) (show k-1<k by omega);have b7:0<dt:=by have h:=iQ y;rw[mF,lj,l2,bm]at h;simp at h;omega
 obtain⟨s,YH,b5,bB,cw,cy⟩:=Wj b7 bN;have lv:=Tc l2 pj bm bB;obtain⟨cb,cd⟩:=OW (s:=s) l1 YH;have ek:((k:Int)-1)=((k-1:Nat):Int):=pj;have kw:IntKind.i64.wrap ((k:Int)-1)=((k-1:Nat):Int):=by rw[cA];omega
 have kd:IntKind.u64.wrap (dt:Int)=(dt:Int):=by simp[IntKind.wrap,IntKind.bits,IntKind.signed];omega
 have P:=Hd7 l1 l2 lv cb cd b5 bB;clear hx hy hM l1 l2 lv cb cd bm b5 bB;refine ent func228 ntmps228 ?_
 gi_wp2_with (first
  |(refine Cl 261 (wG (dt:Int) _ pj pj) ?_;rintro e w ⟨rfl,rfl⟩;rw[fv])
  |(refine⟨bO,?_⟩;gi_at_call 262;have g:=HV.out;clear g;refine Cn (Ic (A:=A) (c:=c) (x:=x) (H.out.keep (bq HV.z [])) pj YH) ?_;rintro e w2 ⟨ub,ku,LU,rfl,ur,Td,uk,ul,ug,ut,uB⟩;have HU:=Hd7 ur Td uk ul ug ut uB;have bw:=ur.own (base:=w1.heap.size) Td uk (by rw[jm];exact ul) pj;rw[eG,ut]at bw;obtain⟨g,cc,S,a1,a2,a3,a4,a5,a6⟩:=Wn bw uB.size pj;have JR:=Hd a1;have HA:=oK a2 a3 a4 a5 a6;have bW:ku=(bC (x*2^s)).length:=by rw[<-ut,cI];omega
    have cT:n<=ku:=by rw[bW];exact P.d
    have cU:ku<=n+1:=uk;have ce:=nZ (k:=n+1) underlying190 (sz:=1) (fun w=>by kernel_rfl) (some ⟨g,0,none⟩) (n:=ku+2) (cp:=cc) pj a6;rw[show((n+1:Nat):Int)=(n:Int)+1 from by omega]at ce;have ar:=qR (t:=190) underlying190 (n-k+1) pj;obtain⟨W4,I4⟩:=aC (S.alloc (.cells ((List.replicate (n-k+1) (0:Int)).map (Value.int .i64)).toArray 3));replace ar:=ar S;rw[I4,show((n-k+1:Nat):Int)=(n:Int)-(k:Int)+1 from by omega]at ar;have H4:=Hd I4;clear ur Td uk ul ug ut uB bw a1 a2 a3 a4 a5 bW I4)
  |(refine⟨bO,?_⟩;gi_at_call 262;rw[P.f];refine Cn (Ic (A:=some ⟨b0,o0,none⟩) (c:=d) (x:=y) G.out pj YH) ?_;rintro e w1 ⟨vb,kk,LV,rfl,vr,cg,vk,vl,vg,vt,vB⟩;have cC:k=kk:=by
     have h:=gT List.length vt;rw[cI,P.c]at h;omega
    subst cC;have HV:=Hd7 vr cg vk vl vg vt vB;clear vr cg vk vl vg vt vB)
  |(gi_at_builtin;refine c_ rfl fun K aL=>?_;refine aI _ _ _ rfl rfl rfl JR.out (aL _ _ ?_);clear aL K)
  |fail)
 have hU:=HU.out;have hV:=HV.out;obtain⟨a2,a3,a4,a5⟩:=HA.out;have b9:vb<w1.heap.size:=hV.1.lt;have cP:w.heap.size<=w1.heap.size:=hV.2.2.2.2.2.2.size;have cN:w1.heap.size<=ub:=hU.2.1;have cV:w1.heap.size<=w2.heap.size:=hU.2.2.2.2.2.2.size;have cY:w1.heap.size<=g:=by
  rcases a5 with e|e;·have:ub=g:=fk e;omega
  omega
 have cX:g<S.heap.size:=(World.ownsRow.lt a2 g rfl).2;have c4:=a3.size;have bg:Below w1 w1 W4:=(hU.2.2.2.2.2.2.trans (a3.mono pj )).trans (by rw[<-H4.out];exact pE.alloc pj _);have bG:Below w w W4:=hV.2.2.2.2.2.2.trans (bg.mono cP);obtain⟨T,hT⟩:∃T,T=(bC (x*2^s)++ [0,0]).take (n+1):=⟨_,rfl⟩;have bb:(bC (x*2^s)).length=ku:=by rw[<-hU.2.2.2.2.2.1,cI,hU.2.2.2.1];omega
 have a7:T.length=n+1:=by rw[hT,cI,cJ,bb];simp;omega
 have bS:Good (bC (x*2^s)++ [0,0]):=fun q hq=>by
  rcases cK.1 hq with hq|hq;·exact aO _ q hq
  simp at hq;rw[hq];exact eX
 have aQ:Good T:=by rw[hT];exact lD bS _
 have bH:val (T.take (n+1))=x*2^s:=by
  rw[bR pj,hT];have e:=lX (bC (x*2^s)++ [0,0]) (n+1) (by rw[cJ,bb];simp;omega);rw[val_append,bI]at e;have z1:val [0,0]=0:=rfl;have z2:val ((bC (x*2^s)++ [0,0]).drop (n+1))=0:=by
   rw[List.drop_append,cB pj,df,bb];rcases(show n+1-ku=0\/n+1-ku=1 by omega)with e|e;·rw[e];rfl
   rw[e];rfl
  rw[z1,z2]at e;omega
 have bz:Rw W4 g (n+1) cc (ints T):=by have h:=Rw.cut (g:=g) a2 rfl (m:=n+1) pj;rw[show ints (bC (x*2^s))++ [0,0]=ints (bC (x*2^s)++ [0,0]) by simp[ints],eG,<-hT]at h;exact h.go (by rw[<-H4.out];exact pE.alloc pD _)
 have b4:Row W4 S.heap.size (ints (List.replicate (n-k+1) 0)):=by rw[<-H4.out,<-lH];exact Row.new _ S
 have ca:Sl Int W4 [g,S.heap.size] (some ⟨vb,0,none⟩) k (k+1) (ints (bC (y*2^s))):=by
  have h:=(hV.1.go bg b9).sl (M:= [g,S.heap.size]) px (n:=k+1) (by rw[jm];exact hV.2.2.2.1) pj (fU hV.2.2.2.2.1);have h2:=h.nY (k:=k) pj
  rwa [eG,hV.2.2.2.2.2.1]at h2
 have b1:=LI.start (s:=s) (T:=T) P.a P.b hkn pj bH aQ pj;have bJ:0<y*2^s:=by
  rcases eC (y*2^s)with e|e;·have:=P.c;rw[e,bU]at this;simp at this;omega
  exact e
 have V:=Hd2 ca bJ;have aE:w.heap.size<=g:=pj;have bc:w.heap.size<=S.heap.size:=pj;have ba:g≠S.heap.size:=pj;have b6:T=T.take (n-k+1)++((T.drop (n-k+1)).take k++T.drop (n+1)):=by
  have e1:T.take (n+1)=T.take (n-k+1)++(T.drop (n-k+1)).take k:=by exact YT
  rw[<-dz,<-e1,mh]
 rw[b6]at bz;have S0:=Hd2 b1 (LS.mk bz b4 (cG _ _) bG);clear bz b4 ca b1 bJ bH aQ bS a7 bb hT b6 bG a2 a3 a4 a5 hU hV HU HV HA H4 JR ce ar cN b9 bg bk cw cy b7 bN kd;gi_wp2;gi_loopw[10] (fun v wr=>∃(j:Nat) (lo rs rest Q:List Nat),j<=n-k+1/\v=.int .i64 ((j:Int)-1)/\Hid (LI (x*2^s) (y*2^s) (n+1) k (n-k+1) j lo rs rest Q)/\Hid (LS w W4 wr g S.heap.size cc n (ints (lo++(rs++rest))) Q)) (fun v _=>(intOf v+1).toNat);case atStart=>exact⟨n-k+1,_,_,_,_,bj _,by go_num,S0.a,S0.u⟩
 case round=>
  obtain⟨j,lo,rs,rest,Q,hj,rfl,hI,hS⟩:=hrel;rcases eC j with rfl|c0
  ·obtain⟨b2,cL,bx⟩:val Q=x/y/\val rs=(x%y)*2^s/\val ((rs++rest).take (n+1))=(x%y)*2^s:=by
     have h:=hI.out;have h0:lo= []:=de.1 h.lol;subst h0;exact h.done pj
   have h0:lo= []:=de.1 hI.out.lol;subst h0;have ad:=hS.out;rw[df]at ad;have a7:(rs++rest).length=n+1:=by have:=ad.u.len;rwa [jm]at this
   rw[bR (by rw[a7];exact bj _)]at bx;have aQ:Good (rs++rest):=fun q hq=>by
    rcases cK.1 hq with hq|hq;·exact hI.out.grs q hq
    exact hI.out.gz q hq
   have bP:g∉M:=fun e=>by have:=HM.out _ e;omega
   have cH:S.heap.size∉M:=fun e=>by have:=HM.out _ e;omega
   have su:Sl Int wr.drew M (some ⟨g,0,none⟩) (n+1) cc (ints (rs++rest)):=ad.drew.u.sl bP pj (fU aQ);have bQ:=hI.out.gq;have bY:=hI.out.ql;have hp:0<2^s:=oS pt;have cF:2^s<=1073741824:=OU YH;have c7:IntKind.i64.wrap (2^s)=((2^s:Nat):Int):=by have e:(2:Int)^s=((2^s:Nat):Int):=po;rw[e,cA];omega
   have bL:b_ M wr.drew:=HM.out.le ad.bl.size;have E:=Hd (And.intro su (And.intro aQ (And.intro bx (And.intro bQ (And.intro bY (And.intro b2 (And.intro ad.drew bL)))))));clear b2 cL bx ad a7 aQ bP su bQ bY hI hS bL;gi_wp2;refine ak [] [0,2,3,1,4,5,6,7,8] pk pk ?_;refine eH ?_;refine aH fun K hK=>aA rfl rfl wy fun K' aL=>?_;gi_wp2;refine Cm (jw _ _ _ (rs++rest) wr.drew E.a E.b) ?_;rintro e w5 ⟨q,rfl,hq,ht,aP⟩;have hs5:=(E.a.keep (bq aP M)).nY hq;rw[eG,ht,E.c]at hs5;have H5:=Hd2 hs5 aP;clear hs5 ht;refine aL _ _ ⟨?_,hK _ _ ?_⟩;clear aL K' hK K;·exact bq aP []
   refine lit ?_;refine eH ?_;refine aH fun K hK=>aA rfl rfl wy fun K' aL=>?_;gi_wp2;refine Cm (short_any (x:=(x%y)*2^s) (d:=2^s) (E.out.2.2.2.2.2.2.2.le aP.size) H5.a pj hp cF) ?_;rintro e w6 ⟨O2,q2,c2,rfl,bA,bi⟩;rw[Nat.mul_div_cancel _ hp]at bA;have H6:=Hd2 bA (aP.trans (bi.mono aP.size));clear bA;refine aL _ _ ⟨?_,hK _ _ ?_⟩;clear aL K' hK K;·exact bq bi []
   refine lit ?_;refine eH ?_;refine aK ?_;refine lit ?_;have hb:=H6.u;have sq:Sl Int w6 M (some ⟨S,0,none⟩) (n-k+1) (n-k+1) (ints Q):=(E.out.2.2.2.2.2.2.1.q.go hb E.out.2.2.2.2.2.2.1.q.lt).sl cH (by rw[jm];exact E.e) pj (fU E.d);have SQ:=Hd sq;clear sq hb aP bi;gi_wp2_with (refine Cl 186 (jw _ _ _ Q _ SQ.out E.d) ?_;rintro e w7 ⟨q3,rfl,b3,b8,bK⟩;have H7:=fB b3 b8 bK;clear b3 b8 bK)
   have hs7:=(SQ.out.keep (bq H7.v M)).nY H7.a;rw[eG,H7.b,E.f]at hs7;go_ret2;exact⟨_,q3,_,O2,q2,c2,rfl,hs7,H6.a.keep (bq H7.v M),E.out.2.2.2.2.2.2.1.bl.trans ((H6.u.trans (H7.v.mono H6.u.size)).mono E.out.2.2.2.2.2.2.1.bl.size)⟩
  ·obtain⟨i,rfl⟩:∃i,j=i+1:=⟨j-1,pj⟩;have ei:((i+1:Nat):Int)-1=(i:Int):=pj;rw[ei];obtain⟨a0,dd,ws,t,hlo,aU,a_,aZ,Wq,bD,bZ,aS⟩:=hI.out.window;have ad:=hS.out;rw[LI.shape (rest:=rest) hlo a_,<-Wi]at ad;obtain⟨u1,aV⟩:=dW ws (k-1) pj;obtain⟨u2,aW⟩:=dW ws (k-2) pj;have ci:=g_ (Wq u1 (bh aV));have cj:=g_ (Wq u2 (bh aW));have ck:=g_ bD;obtain⟨bv,ov,v1,Tf,aR,cl,YI,-⟩:=(V.a.keep ad.kp).mG (aO _) (show k-1<k by omega);obtain⟨cW,c9,v2,cm,aX,cn,bf,-⟩:=(V.a.keep ad.kp).mG (aO _) (show k-2<k by omega);cases Tf;cases cm;rw[dC]at aR aX;have co:0<v1:=by
    have h:=iQ (y*2^s);rw[mF,lj,P.c,YI]at h;simp at h;omega
   have a8:wr.cell? ⟨g,i+k,none⟩=some (.int .i64 (t:Int)):=ad.u.cell (zA aU aZ);have bM:wr.cell? ⟨g,i+(k-1),none⟩=some (.int .i64 (u1:Int)):=ad.u.cell (wE aU aV);have a9:wr.cell? ⟨g,i+(k-2),none⟩=some (.int .i64 (u2:Int)):=ad.u.cell (wE aU aW);have cZ:i+k<n+1:=by have:=hI.out.jl;omega
   have bT:GS (ws++ [t]) (bC (y*2^s)) k t u1 u2 v1 v2:=by
    refine⟨?_,aO _,?_,?_,?_,by simp[aZ],bf,YI,P.c,co,by rw[bI];exact V.u,?_,hk2⟩;·exact zu Wq bD
    ·rw[dk pj];exact aW
    ·rw[dk pj];exact aV
    ·rw[cQ pj,aZ,gA];rfl
    rw[<-a_,bI];exact hI.out.less aS
   have W:=Hd (And.intro ad (And.intro hlo (And.intro aU (And.intro a_ (And.intro aZ (And.intro Wq (And.intro bZ (And.intro aS (And.intro aV (And.intro aW (And.intro YI bf)))))))))));clear hlo aU a_ aZ Wq bZ aS aV aW YI bf bD ei hS hj;have s0:=ah a8;have s1:=ah bM;have k1:IntKind.i64.wrap ((i:Int)+(k:Int))=(i:Int)+(k:Int):=by rw[cA];omega
   have k2:IntKind.i64.wrap ((i:Int)+(k:Int)-1)=(i:Int)+((k-1:Nat):Int):=by rw[cA];omega
   obtain⟨hd,dq,g0,bV,k4,aS,k5,k6,k7,k3⟩:=OX (v1:=v1) ck ci;have k8:¬v1=0:=pj;have cq:wr.drew.cell? ⟨vb,k-1,none⟩=some (.int .i64 (v1:Int)):=aR;have HH:=Hd bV;clear bV;have j1:(0:Int)<=(i:Int)+(k:Int):=pj;have j2:(i:Int)+(k:Int)<(n:Int)+1:=pj;have j3:((i:Int)+(k:Int)).toNat=i+k:=pj;have j4:(0:Int)<=(i:Int)+((k-1:Nat):Int):=pj;have j5:(i:Int)+((k-1:Nat):Int)<(n:Int)+1:=pj;have j6:((i:Int)+((k-1:Nat):Int)).toNat=i+(k-1):=pj;gi_wp2;refine ak [] (List.range 16) pk pk ?_;simp only[show List.range 16= [0,1,2,3,4,5,6,7,8,9,10,11,12,13,14,15]from rfl];refine eH ?_;refine aK ?_;refine lit ?_;gi_wp2;have bd:=Hd bT;have ch:=Hd ad.drew;clear bT a8 bM a9 aR aX cq s0 s1 k4 k5 k6 k7 k3 ad;gi_loopw[12] (fun v wr=>∃r:Nat,v=.int .i64 r/\r<=1073741823/\Hid (lZ (ws++ [t]) (bC (y*2^s)) r/\r*v1<=hd)/\Hid (LS w W4 wr g S.heap.size cc n (RR a0 ws (t:Int) rest) Q)) (fun v _=>(intOf v).toNat);case atStart=>exact⟨g0,rfl,by rw[HH.v];exact Nat.min_le_right _ _,by rw[HH.v,HH.a];exact bd.out.start,ch.out⟩
   case round=>
    obtain⟨r,rfl,bo,hG,aM⟩:=hrel;obtain⟨X,Y,hX,f1,f2,f3,f4,f5⟩:=OY aS bo cl cn cj hG.u;have a8:wr.cell? ⟨g,i+k,none⟩=some (.int .i64 (t:Int)):=aM.out.u.cell (zA W.c W.e);have a9:wr.cell? ⟨g,i+(k-2),none⟩=some (.int .i64 (u2:Int)):=aM.out.u.cell (wE W.c W.out.2.2.2.2.2.2.2.2.2.1);have kv:=V.a.keep aM.out.kp;have aR:wr.cell? ⟨vb,k-1,none⟩=some (.int .i64 (v1:Int)):=by
     obtain⟨bv,ov,q,Tf,h1,-,h2,-⟩:=kv.mG (aO _) (show k-1<k by omega);cases Tf;rw[W.out.2.2.2.2.2.2.2.2.2.2.1]at h2;cases h2
     rwa [dC]at h1
    have aX:wr.cell? ⟨vb,k-2,none⟩=some (.int .i64 (v2:Int)):=by
     obtain⟨bv,ov,q,Tf,h1,-,h2,-⟩:=kv.mG (aO _) (show k-2<k by omega);cases Tf;rw[W.out.2.2.2.2.2.2.2.2.2.2.2]at h2;cases h2
     rwa [dC]at h1
    have s1:=ah aR;have s2:=ah aX;have s3:=ah a9;have c8:IntKind.i64.wrap ((k:Int)-2)=((k-2:Nat):Int):=by rw[cA];omega
    have k9:IntKind.i64.wrap ((i:Int)+(k:Int)-2)=(i:Int)+((k-2:Nat):Int):=by rw[cA];omega
    have j7:(0:Int)<=(i:Int)+((k-2:Nat):Int):=pj;have j8:(i:Int)+((k-2:Nat):Int)<(n:Int)+1:=pj;have j9:((i:Int)+((k-2:Nat):Int)).toNat=i+(k-2):=pj;have c5:k-1<k:=pj;have c6:k-2<k:=pj;have FX:=Hd2 hX f5;have KV:=Hd kv;clear hX f5 kv a8 a9 aR aX ek;by_cases hc:Y<(r:Int)*(v2:Int)/\X<=1073741823;·obtain⟨c1,c2⟩:=hc;have q1:decide (Y<(r:Int)*(v2:Int))=true:=cx c1;have q2:decide ((X:Int)<=1073741823)=true:=cx pj;gi_wp2;refine ak [] (List.range 38) pk pk ?_;simp only[show List.range 38= [0,1,2,3,4,5,6,7,8,9,10,11,12,13,14,15,16,17,18,19,20,21,22,23,24,25,26,27,28,29,30,31,32,33,34,35,36,37]from rfl];refine eH ?_;refine aK ?_;refine lit ?_;gi_wp2;have aT:=hG.u;rw[HH.a]at aT;have hX:=FX.a;rw[HH.a]at hX;obtain⟨e1,e2,e3⟩:=bd.out.less hG.a aT hX (by have h1:=FX.u c2;have h2:((r*v2:Nat):Int)=(r:Int)*(v2:Int):=eI ..;omega);rw[<-HH.a]at e3;exact⟨⟨r-1,by congr 1;omega,pj,⟨e2,e3⟩,aM.out.drew⟩,by simp[intOf];omega⟩
    ·have QA:r*val (bC (y*2^s))<=val (ws++ [t])+val (bC (y*2^s)):=by
       have aT:=hG.u;rw[HH.a]at aT;have hX:=FX.a;rw[HH.a]at hX;refine bd.out.done hG.a aT hX ?_;by_cases c2:X<=1073741823;·right;have h1:=FX.u c2;have h2:((r*v2:Nat):Int)=(r:Int)*(v2:Int):=eI ..;have h3:¬Y<(r:Int)*(v2:Int):=fun e=>hc ⟨e,c2⟩;omega
       ·left;exact bX (show BB-1<1073741824 by decide) pj
     have HN:=Hd QA;clear QA;have cz:(decide (Y<(r:Int)*(v2:Int))=false)\/(decide (Y<(r:Int)*(v2:Int))=true/\decide ((X:Int)<=1073741823)=false):=by
      by_cases c1:Y<(r:Int)*(v2:Int);·right;exact⟨cx c1,cE (fun e=>hc ⟨c1,pj⟩)⟩
      left;exact cE c1
     clear hc;rcases cz with q1|⟨q1,q2⟩;·exact rZ
     exact rZ
end
