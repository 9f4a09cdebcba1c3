/- Lemmas. -/
import Derived.Lib.ItoaNum
import Derived.Test.YtfdmnogfflcllaaGreatDoorM08
import Derived.Test.YtfdmnogfflcllaaGreatDoorM09
set_option linter.unusedVariables false
set_option linter.unusedSimpArgs false
set_option maxRecDepth 100000
set_option maxHeartbeats 20000000
namespace Go.Proofs.YtfdmnogfflcllaaGreatDoor
open Go.Proofs.Tryz Go.RowKit Go.Shelf
theorem aj_{p:Prop}(h:p:=by gi_wp2;exact⟨⟨i,_,_,_,_,oE,rfl,Wu.a,Wu.u⟩,by simp[intOf]⟩):p:=h
theorem rZ{p:Prop}(h:p:=by
 gi_wp2;refine ak [] (List.range 38) oF oF ?_;simp only[show List.range 38= [0,1,2,3,4,5,6,7,8,9,10,11,12,13,14,15,16,17,18,19,20,21,22,23,24,25,26,27,28,29,30,31,32,33,34,35,36,37]from rfl];refine eH ?_;refine aK ?_;refine lit ?_;gi_wp2;have bg:=Hd aM.out.drew;obtain⟨F,hF⟩:=aC ((List.range k).map (fun j=>(aB ws j:Int)-(r:Int)*(aB (bC (y*2^s)) j:Int)));have cx:F.length=k:=by rw[<-hF];simp
 have HF:=Hd hF;clear hF q1 s1 s2 s3 f1 f2 f3 f4 aM;gi_loopw[13,121] (fun o v wr=>∃(m:Nat) (L:List Nat) (I:Int),m<=k/\o=.int .i64 I/\v=.int .i64 m/\ -8589934592<=I/\I<=8589934592/\Hid (rY F m L I)/\Hid (LS w W4 wr g S.heap.size cc n (RR a7 (L++ws.drop m) (t:Int) rest) Q)) (fun _ v _=>k-(intOf v).toNat);case atStart=>exact⟨0, [],0,bO _,rfl,rfl,oE,oE,rY.start F,bg.out⟩
 case round=>
  obtain⟨m,L,I,hm,rfl,rfl,bs,bt,hC,ae⟩:=hrel;by_cases aF:m<k
  ·obtain⟨C,ab⟩:=dW ws m (by rw[W.e];exact aF);have OZ:=g_ (W.f C (aR ab));obtain⟨bv,ov,vm,Tf,al,O1,aN,Ec⟩:=(V.a.keep ae.out.kp).mG (aO _) aF;cases Tf;rw[dm]at al;have ay:(L++ws.drop m)[m]?=some C:=by
    rw[cM (by rw[hC.b];exact bh _),hC.b,ga,fq,ed];exact ab
   have ag:wr.cell? ⟨g,i+m,none⟩=some (.int .i64 (C:Int)):=ae.out.u.cell (wE W.c ay);have aw:F[m]?=some ((C:Int)-(r:Int)*(vm:Int)):=by rw[<-HF.out,cP,gR aF];simp only[fY,Ec];rw[show aB ws m=C by simp[aB,List.getD,ab]]
   obtain⟨f1,f2,f3,f4,f5⟩:=Ea bp OZ O1 bs bt;have aD:=hC.out.step aw;have az:(L++ws.drop m).set m (((C:Int)-(r:Int)*(vm:Int)+I)% (BB:Int)).toNat=(L++ [(((C:Int)-(r:Int)*(vm:Int)+I)% (BB:Int)).toNat])++ws.drop (m+1):=set_mid hC.b (by rw[W.e];exact aF) _;have p:=ae.out.drew.FB oE aE (i+m) ((((C:Int)-(r:Int)*(vm:Int)+I)% (BB:Int)).toNat:Int);rw[rH W.c (by rw[cH,hC.b,eC,W.e];omega),az,iB (lR _ oR)]at p;have au:=Hd2 aD p;have s1:=ah ag;have s2:=ah al;have y1:wr.drew.cell? ⟨g,i+m,none⟩=some (.int .i64 (C:Int)):=ag;have y2:wr.drew.frozen? ⟨g,i+m,none⟩=false:=ae.out.u.free _;have g1:IntKind.i64.wrap ((i:Int)+(m:Int))=(i:Int)+(m:Int):=by rw[bR];omega
   have g2:(0:Int)<=(i:Int)+(m:Int):=oE;have g3:(i:Int)+(m:Int)<(n:Int)+1:=oE;have g4:((i:Int)+(m:Int)).toNat=i+m:=oE;have bF:=qL ((C:Int)-(r:Int)*(vm:Int)+I);have Ws:=Hd2 f4 f5;clear aD az p ab aN Ec ay ag aw al f4 f5;gi_wp2;refine ak [] (List.range 16) oF oF ?_;simp only[show List.range 16= [0,1,2,3,4,5,6,7,8,9,10,11,12,13,14,15]from rfl];refine eH ?_;refine aK ?_;refine lit ?_;gi_wp2;exact⟨⟨m+1,_,_,oE,rfl,by go_num,Ws.a,Ws.u,au.a,au.u⟩,by simp[intOf];omega⟩
  ·have ar:k=m:=oE;subst ar;have ac:aY F 0=(L,I):=by
    have h:=hC.a;rw[cA oE]at h;simpa[aY]using h
   have aa:=hC.b;have Ti:=hC.v;have af:=ae.out;rw[cA (by rw[W.e];exact bh _),ef]at af;have av:(List.range (bC (y*2^s)).length).map (fun j=>(aB ws j:Int)-(r:Int)*(aB (bC (y*2^s)) j:Int))=F:=by rw[P.c];exact HF.out
   have bm:wr.cell? ⟨g,i+k,none⟩=some (.int .i64 (t:Int)):=af.u.cell (zA W.c aa);have bo:wr.frozen? ⟨g,i+k,none⟩=false:=af.u.free _;have br:i<n-k+1:=by have:=hI.out.jl;omega
   have an:val (dd::rs)=val (ws++ [t]):=by rw[W.d]
   have am:val (bC (y*2^s))=y*2^s:=bI _;obtain⟨OV,ai⟩:=dW Q i (by rw[hI.out.ql];exact br);have g2:(0:Int)<=(i:Int)+(k:Int):=oE;by_cases aJ:(t:Int)+I<0
   ·obtain⟨d0,d1,J,R⟩:=D6 (us:=ws++ [t]) (vs:=bC (y*2^s)) (ws:=ws) (t:=t) (g:=r) rfl (by rw[W.e,P.c]) (aO _) HN.out (m:=L) (o:=I) (by rw[av];exact ac) aJ;rw[P.c]at J R;obtain⟨F2,ap⟩:=aC ((List.range k).map (fun j=>(aB L j:Int)+(aB (bC (y*2^s)) j:Int)));rw[ap]at J R;have co:F2.length=k:=by rw[<-ap];simp
    have bG:IntKind.i64.wrap ((t:Int)+I)=(t:Int)+I:=by rw[bR];omega
    have cQ:IntKind.i64.wrap ((r:Int)-1)=((r-1:Nat):Int):=by rw[bR];omega
    have p:=af.FB oE aE (i+k) ((t:Int)+I);rw[lJ W.c aa]at p;have D:=Hd (And.intro d0 (And.intro d1 (And.intro J (And.intro R (And.intro ap (And.intro aa (And.intro Ti (And.intro an (And.intro am (And.intro ai (And.intro p bo)))))))))));have q3:decide ((t:Int)+I<0)=true:=cw aJ;clear p d0 d1 J R ap aa Ti an am ac av hC ae af ai;gi_wp2;gi_loopw[16,169] (fun o v wr=>∃(m:Nat) (ao:List Nat) (Z:Int),m<=k/\o=.int .i64 Z/\v=.int .i64 m/\ -8589934592<=Z/\Z<=8589934592/\Hid (rY F2 m ao Z)/\Hid (LS w W4 wr g S.heap.size cc n (RR a7 (ao++L.drop m) ((t:Int)+I) rest) Q)) (fun _ v _=>k-(intOf v).toNat);case atStart=>exact⟨0, [],0,bO _,rfl,rfl,oE,oE,rY.start F2,D.out.2.2.2.2.2.2.2.2.2.2.1⟩
    case round=>
     obtain⟨m,ao,Z,cD,rfl,rfl,bu,bw,U,aq⟩:=hrel;by_cases aG:m<k
     ·obtain⟨C,ab⟩:=dW L m (by rw[D.f];exact aG);have OZ:=g_ (D.out.2.2.2.2.2.2.1 C (aR ab));obtain⟨bv,ov,vm,Tf,al,O1,aN,Ec⟩:=(V.a.keep aq.out.kp).mG (aO _) aG;cases Tf;rw[dm]at al;have ay:(ao++L.drop m)[m]?=some C:=by
       rw[cM (by rw[U.b];exact bh _),U.b,ga,fq,ed];exact ab
      have ag:wr.cell? ⟨g,i+m,none⟩=some (.int .i64 (C:Int)):=aq.out.u.cell (wE W.c ay);have aw:F2[m]?=some ((C:Int)+(vm:Int)):=by rw[<-D.e,cP,gR aG];simp only[fY,Ec];rw[show aB L m=C by simp[aB,List.getD,ab]]
      obtain⟨f1,f2,f4,f5⟩:=Eb OZ O1 bu bw;have aD:=U.out.step aw;have az:(ao++L.drop m).set m (((C:Int)+(vm:Int)+Z)% (BB:Int)).toNat=(ao++ [(((C:Int)+(vm:Int)+Z)% (BB:Int)).toNat])++L.drop (m+1):=set_mid U.b (by rw[D.f];exact aG) _;have p:=aq.out.drew.FB oE aE (i+m) ((((C:Int)+(vm:Int)+Z)% (BB:Int)).toNat:Int);rw[rH W.c (by rw[cH,U.b,eC,D.f];omega),az,iB (lR _ oR)]at p;have au:=Hd2 aD p;have s1:=ah ag;have s2:=ah al;have y1:wr.drew.cell? ⟨g,i+m,none⟩=some (.int .i64 (C:Int)):=ag;have y2:wr.drew.frozen? ⟨g,i+m,none⟩=false:=aq.out.u.free _;have g1:IntKind.i64.wrap ((i:Int)+(m:Int))=(i:Int)+(m:Int):=by rw[bR];omega
      have cv:(0:Int)<=(i:Int)+(m:Int):=oE;have g3:(i:Int)+(m:Int)<(n:Int)+1:=oE;have g4:((i:Int)+(m:Int)).toNat=i+m:=oE;have bF:=qL ((C:Int)+(vm:Int)+Z);have Ws:=Hd2 f4 f5;clear aD az p ab aN Ec ay ag aw al f4 f5;gi_wp2;refine ak [] (List.range 14) oF oF ?_;simp only[show List.range 14= [0,1,2,3,4,5,6,7,8,9,10,11,12,13]from rfl];refine eH ?_;refine aK ?_;refine lit ?_;gi_wp2;exact⟨⟨m+1,_,_,oE,rfl,by go_num,Ws.a,Ws.u,au.a,au.u⟩,by simp[intOf];omega⟩
     ·have ar:k=m:=oE;subst ar;have ac:aY F2 0=(ao,Z):=by
       have h:=U.a;rw[cA oE]at h;simpa[aY]using h
      have ax:=aq.out;rw[cA (by rw[D.f];exact bh _),ef]at ax;obtain⟨d0,d1,J,R,ap,aa,Ti,an,am,ai,-,-⟩:=D.out;rw[ac]at J R;rw[am,<-an]at d1 J;simp only at J R;have cq:wr.cell? ⟨g,i+k,none⟩=some (.int .i64 ((t:Int)+I)):=ax.u.cell (zA W.c U.b);have cr:wr.frozen? ⟨g,i+k,none⟩=false:=ax.u.free _;have cS:IntKind.i64.wrap ((t:Int)+I+Z)=0:=by rw[R];rfl
      have p:=ax.FB oE aE (i+k) 0;rw[lJ W.c U.b,BK]at p;have z1:(wr.setCell ⟨g,i+k,none⟩ (.int .i64 0)).cell? ⟨S,i,none⟩=some (.int .i64 (OV:Int)):=p.q.cell (jK ai);have z2:(wr.setCell ⟨g,i+k,none⟩ (.int .i64 0)).frozen? ⟨S,i,none⟩=false:=p.q.free _;have tJ:=p.YG bc be i (r-1);obtain⟨aj,-⟩:=hI.out.step W.b W.c J U.b U.v V.u W.out.2.2.2.2.2.2.2.1;rw[<-d1]at aj;have Wu:=Hd2 aj tJ;clear aj p tJ ac ax d0 d1 J R ap aa Ti an am ai U aq D;exact aj_
   obtain⟨d1,J,R⟩:=zW (us:=ws++ [t]) (vs:=bC (y*2^s)) (ws:=ws) (t:=t) (g:=r) rfl (by rw[W.e,P.c]) (aO _) (by rw[bI];exact V.u) hG.a (by rw[av,ac];exact Int.not_lt.1 aJ);rw[av,ac]at J R;rw[am,<-an]at d1 J;simp only at J R;have bG:IntKind.i64.wrap ((t:Int)+I)=0:=by rw[R];rfl
   have p:=af.FB oE aE (i+k) 0;rw[lJ W.c aa,BK]at p;have z1:(wr.setCell ⟨g,i+k,none⟩ (.int .i64 0)).cell? ⟨S,i,none⟩=some (.int .i64 (OV:Int)):=p.q.cell (jK ai);have z2:(wr.setCell ⟨g,i+k,none⟩ (.int .i64 0)).frozen? ⟨S,i,none⟩=false:=p.q.free _;have tJ:=p.YG bc be i r;obtain⟨aj,-⟩:=hI.out.step W.b W.c J aa Ti V.u W.out.2.2.2.2.2.2.2.1;rw[<-d1]at aj;have Wu:=Hd2 aj tJ;clear aj p tJ ac av af d1 J R aa Ti an am ai aJ hC ae;exact aj_):p:=h
variable {x b n m base d y s X qb cc:Nat}{M Q:List Nat}{v:Value}{xs T:List Int}{W W4:World}{o:Int}
section
attribute [local go_sem] cK
def Rw(w:World)(g N cap:Nat)(l:List Int):Prop:=w.ownsRow 0 3 1 (.slice (some ⟨g,0,none⟩) N cap) N (l.map (Value.int .i64))
section
variable {w w':World}{g N cap:Nat}{l:List Int}
theorem Rw.len(h:Rw w g N cap l):l.length=N:=by simpa using h.1
theorem Rw.cell(h:Rw w g N cap l){k:Nat}{x:Int}(hk:l[k]?=some x):w.cell? ⟨g,k,none⟩=some (.int .i64 x):=by
 have q:k<N:=by rw[<-h.len];exact(bj.1 hk).1
 rw[World.ownsRow.cellAt h k oE,cP,hk];rfl
theorem Rw.free(h:Rw w g N cap l)(k:Nat):w.frozen? ⟨g,k,none⟩=false:=World.ownsRow.frozenAt h k
theorem Rw.put(h:Rw w g N cap l)(k:Nat)(x:Int):Rw (w.setCell ⟨g,k,none⟩ (.int .i64 x)) g N cap (l.set k x):=by unfold Rw;rw[oe];exact(World.ownsRow.stored h k _).1
theorem Rw.uw(h:Rw w g N cap l)(hb:g≠b)(k:Nat)(u:Value):Rw (w.setCell ⟨b,k,none⟩ u) g N cap l:=qp h (fun q hq _=>by have e:g=q:=eW hq;subst e;exact i_ w _ _ g hb)
theorem Rw.go(h:Rw w g N cap l)(hb:Below w w w'):Rw w' g N cap l:=qp h (fun q _ hl=>hb.block q hl)
theorem Rw.sl(h:Rw w g N cap l)(hM:g∉M)(hs:N<=1000000)(hi:∀x,x∈l->i64 x):Sl Int w M (some ⟨g,0,none⟩) N cap l:=by
 rcases h.2 with⟨e,_⟩|⟨r,p,q,e,-,-,i,f,-,-⟩;·cases e
 cases e;refine⟨h.len,i,by simpa[jG,maxLen]using f,oE,.inr ⟨g,0,rfl,fun k x c=>⟨_,⟨rfl,hi x (aR c)⟩,hM,fun j u a=>?_⟩⟩⟩
 match j,a with
 |0,a=>cases a;simpa[show Rep.sz Int=1 from rfl]using h.cell c
theorem Rw.cut(h:w.ownsRow base 3 1 v n (xs.map (Value.int .i64)))(hv:v=.slice (some ⟨g,0,none⟩) n cap)(hm:m<=n):Rw w g m cap (xs.take m):=by
 rcases h.2 with⟨e,_⟩|⟨q,p,a,e,hb,f,r,c,i,j⟩;·rw[e]at hv;cases hv
 rw[e]at hv;cases hv;refine⟨?_,.inr ⟨g,cap,a,rfl,bO _,f,oE,c,i,?_⟩⟩;·rw[cC,cI];have:=h.1;rw[cC]at this;omega
 rw[List.map_take,<-j,List.take_take,ij,ij,gd hm]
end
theorem Wj(h0:0<d)(h1:d<=1073741823):∃s:Nat,s<=29/\(64-(Lib.bitLen d:Int))-34=(s:Int)/\(d+1)*2^s<=BB/\1<=Lib.bitLen d/\Lib.bitLen d<=30:=by
 have hb:=Lib.bitLenAux_bounds 64 d oE oE;have c:=Lib.bitLen_le d 30 oE oE;have e:Lib.bitLen d=Lib.bitLenAux 64 d:=rfl;rw[e]at c |-;generalize Lib.bitLenAux 64 d=L at*
 refine⟨30-L,oE,oE,?_,hb.1,c⟩;have a:(d+1)*2^(30-L)<=2^L*2^(30-L):=dy _ hb.2.2;rw[<-Nat.pow_add,show L+(30-L)=30 by omega]at a;exact a
theorem Tc{k:Nat}(hk:(bC y).length=k)(hk0:0<k)(hd:(bC y)[k-1]?=some d)(hs:(d+1)*2^s<=BB):(bC (y*2^s)).length=k:=by
 have c:(bC (y*2^s)).length<=k:=by
  rw[<-lY];have e:=l7 hd;rw[show k-1+1=k by omega,bL oE,bI]at e;have a:=jh _ (lD (aO y) (k-1));rw[cI,gd oE]at a;have r:y<BB^(k-1)*(d+1):=by rw[gG,ij];omega
  have D:y*2^s<BB^(k-1)*(d+1)*2^s:=Nat.mul_lt_mul_of_pos_right r (nL oR);have K:BB^(k-1)*((d+1)*2^s)<=BB^(k-1)*BB:=ln _ hs;rw[<-lj,show(k-1).succ=k by omega,<-gw]at K;omega
 have a:(bC y).length<=(bC (y*2^s)).length:=kR (Nat.le_mul_of_pos_right _ (nL oR));omega
theorem OW(hn:(bC x).length=n)(hs:s<=29):n<=(bC (x*2^s)).length/\(bC (x*2^s)).length<=n+1:=by
 constructor;·rw[<-hn];exact kR (Nat.le_mul_of_pos_right _ (nL oR))
 rw[<-lY,lj];have a:x<BB^n:=(lY x n).2 oE;exact Nat.mul_lt_mul_of_lt_of_le a (OU hs) eX
theorem Wn(h:W.ownsRow base 3 1 v n (xs.map (Value.int .i64)))(hb:base<=W.heap.size)(hn:n<=1000000000):
 ∃g cc W',(Builtin.append_ #[190,190] 190 #[v,.slice (some ⟨W,0,none⟩) 2 2]).run prog (W.alloc (.cells #[.int .i64 0,.int .i64 0] 3))=.ok (.slice (some ⟨g,0,none⟩) (n+2) cc) W'/\W'.ownsRow base 3 1 (.slice (some ⟨g,0,none⟩) (n+2) cc) (n+2) ((xs++ [0,0]).map (Value.int .i64))/\Below base W W'/\(∀b,b<W.heap.size->v.ownBlock≠some b->W'.heap[b]?=W.heap[b]?)/\(v.ownBlock=some g\/W.heap.size<g)/\n+2<=cc:=by
 obtain⟨G,z,D,E,F⟩:=kO qo;obtain⟨L,w',i,c,r,_,K⟩:=l8 (P:=prog) (W.alloc (.cells #[.int .i64 0,.int .i64 0] 3)) base 190 190 3 G (.int .i64 0) 1 8 underlying190 z D E F rfl oR v n _ (h.alloc _) ⟨W,0,none⟩ 2 2 [.int .i64 0,.int .i64 0] rfl (by intro j u a;match j,a with|0,a=>(cases a;simp[go_sem,Addr.add])|1,a=>(cases a;simp[go_sem,Addr.add])) (by simp[Value.oneCell']) (by unfold maxLen;omega) oE oS;obtain⟨g,cc,rfl⟩:=ownsRow_succ (k:=n+1) c;have p:w'.ownsRow base 3 1 (.slice (some ⟨g,0,none⟩) (n+2) cc) (n+2) ((xs++ [0,0]).map (Value.int .i64)):=by rw[eO];exact c
 refine⟨g,cc,w',i,p,((bw base W).alloc hb _).grown r oS (fun k A=>(h.lt k A).1),fun b q C=>?_,?_,?_⟩;·exact(r.block b oS (fun e=>C e.symm)).trans (mh W _ b q)
 ·rcases K with e|e;·left;rw[<-e];rfl
  right;have f:g=(W.alloc (.cells #[.int .i64 0,.int .i64 0] 3)).heap.size:=eW e;rw[f];simp
 ·rcases c.2 with⟨e,_⟩|⟨J,H,I,e,-,-,B,-⟩;·cases e
  cases e;exact B
theorem ahQ:BB=1073741824:=rfl
theorem OX{t u1 v1:Nat}(ht:t<=1073741823)(hu:u1<=1073741823):∃hd dq g0:Nat,(hd=t*BB+u1/\dq=hd/v1/\g0=min (hd/v1) (BB-1))/\bits .or .i64 ((t:Int)*1073741824) (u1:Int)=(hd:Int)/\hd<=1152921504606846975/\
 min (dq:Int) 1073741823=(g0:Int)/\IntKind.i64.wrap (dq:Int)=(dq:Int)/\((hd:Int)).tdiv (v1:Int)=(dq:Int)/\IntKind.i64.wrap ((t:Int)*1073741824)=(t:Int)*1073741824:=by
 refine⟨t*1073741824+u1,(t*1073741824+u1)/v1,min ((t*1073741824+u1)/v1) 1073741823,⟨rfl,rfl,rfl⟩,?_,oE,?_,?_,(Int.ofNat_tdiv _ _).symm,?_⟩;·rw[Jv ht hu];omega
 ·omega
 ·have h:=nQ (t*1073741824+u1) v1;have a:t*1073741824+u1<=1152921504606846975:=oE;generalize (t*1073741824+u1)/v1=q at*;generalize t*1073741824+u1=r at*;rw[bR];omega
 ·rw[bR];omega
theorem OY{hd g v1 v2 u2:Nat}(hh:hd<=1152921504606846975)(hg:g<=1073741823)(h1:v1<=1073741823)(h2:v2<=1073741823)(hu:u2<=1073741823)(hle:g*v1<=hd):∃(X:Nat) (Y:Int),X=hd-g*v1/\IntKind.i64.wrap ((hd:Int)-(g:Int)*(v1:Int))=(X:Int)/\
 IntKind.i64.wrap ((g:Int)*(v1:Int))=(g:Int)*(v1:Int)/\IntKind.i64.wrap ((g:Int)*(v2:Int))=(g:Int)*(v2:Int)/\bits .or .i64 (IntKind.i64.wrap ((X:Int)*1073741824)) (u2:Int)=Y/\(X<=1073741823->Y=((X*BB+u2:Nat):Int)):=by
 have a1:g*v1<=1073741823*1073741823:=gp hg h1;have a2:g*v2<=1073741823*1073741823:=gp hg h2;have G:(g:Int)*(v1:Int)=((g*v1:Nat):Int):=(eJ ..).symm;have a:(g:Int)*(v2:Int)=((g*v2:Nat):Int):=(eJ ..).symm;rw[G,a];generalize g*v1=p at*
 generalize g*v2=q at*
 refine⟨hd-p,_,rfl,?_,?_,?_,rfl,fun c=>?_⟩;·rw[bR];omega
 ·rw[bR];omega
 ·rw[bR];omega
 ·generalize hd-p=X at*
  have H:IntKind.i64.wrap ((X:Int)*1073741824)=(X:Int)*1073741824:=by rw[bR];omega
  rw[H,Jv c hu,ahQ];omega
structure GS(us vs:List Nat)(k t u1 u2 v1 v2:Nat):Prop where
 gu:Good us
 gv:Good vs
 a2:us[k-2]?=some u2
 a1:us[k-1]?=some u1
 a0:us[k]?=some t
 lu:us.length=k+1
 b2:vs[k-2]?=some v2
 b1:vs[k-1]?=some v1
 lv:vs.length=k
 pv:0<v1
 V0:0<val vs
 lt:val us<BB*val vs
 k2:2<=k
section
variable {us vs:List Nat}{k t u1 u2 v1 v2:Nat}
theorem GS.start(h:GS us vs k t u1 u2 v1 v2):lZ us vs (min ((t*BB+u1)/v1) (BB-1))/\min ((t*BB+u1)/v1) (BB-1)*v1<=t*BB+u1:=by have e:=h.k2;refine⟨Ls (j:=k-2) h.gu h.gv (by rw[show k-2+1=k-1 by omega];exact h.a1) (by rw[show k-2+2=k by omega];exact h.a0) (by rw[h.lu];omega) (by rw[show k-2+1=k-1 by omega];exact h.b1) (by rw[h.lv];omega) h.pv h.lt,?_⟩;exact cD (dy _ (Nat.min_le_left _ _)) (Nat.div_mul_le_self _ _)
theorem GS.less(h:GS us vs k t u1 u2 v1 v2){g:Nat}(hg:lZ us vs g)(hle:g*v1<=t*BB+u1)(hX:X=t*BB+u1-g*v1)(ht:X*BB+u2<g*v2):1<=g/\lZ us vs (g-1)/\(g-1)*v1<=t*BB+u1:=by
 have c:=h.k2;subst hX;have a:=(D5 (v2:=v2) (u2:=u2) hle).1 ht;refine⟨?_,OI (j:=k-2) h.gu h.gv h.a2 (by rw[show k-2+1=k-1 by omega];exact h.a1) (by rw[show k-2+2=k by omega];exact h.a0) (by rw[h.lu];omega) h.b2 (by rw[show k-2+1=k-1 by omega];exact h.b1) (by rw[h.lv];omega) h.V0 hg a,?_⟩
 ·rcases eh g with e|e;·subst e;simp at ht
  exact e
 exact cD (dy _ (Nat.sub_le _ _)) hle
theorem GS.done(h:GS us vs k t u1 u2 v1 v2){g:Nat}(hg:lZ us vs g)(hle:g*v1<=t*BB+u1)(hX:X=t*BB+u1-g*v1)(ht:BB-1<X\/g*v2<=X*BB+u2):g*val vs<=val us+val vs:=by
 have a:=h.k2;subst hX;refine OJ (j:=k-2) h.gu h.gv h.a2 (by rw[show k-2+1=k-1 by omega];exact h.a1) (by rw[show k-2+2=k by omega];exact h.a0) (by rw[h.lu];omega) h.b2 (by rw[show k-2+1=k-1 by omega];exact h.b1) (by rw[h.lv];omega) h.pv hg ?_;rcases ht with ht|ht;·exact SN hg.small (h.gv v2 (aR h.b2)) hle ht
 exact Nat.not_lt.1 (fun e=>absurd ((D5 (v2:=v2) (u2:=u2) hle).2 e) (Nat.not_lt.2 ht))
end
theorem Ea{g w v:Nat}(hg:g<=1073741823)(hw:w<=1073741823)(hv:v<=1073741823)(h1: -8589934592<=o)(h2:o<=8589934592):IntKind.i64.wrap ((g:Int)*(v:Int))=(g:Int)*(v:Int)/\IntKind.i64.wrap ((w:Int)-(g:Int)*(v:Int))=(w:Int)-(g:Int)*(v:Int)/\
 IntKind.i64.wrap ((w:Int)-(g:Int)*(v:Int)+o)=(w:Int)-(g:Int)*(v:Int)+o/\ -8589934592<=((w:Int)-(g:Int)*(v:Int)+o)/1073741824/\((w:Int)-(g:Int)*(v:Int)+o)/1073741824<=8589934592:=by
 have a1:g*v<=1073741823*1073741823:=gp hg hv;have G:(g:Int)*(v:Int)=((g*v:Nat):Int):=(eJ ..).symm;rw[G];generalize g*v=p at*
 refine⟨?_,?_,?_,oE,oE⟩;·rw[bR];omega
 ·rw[bR];omega
 ·rw[bR];omega
theorem Eb{w v:Nat}(hw:w<=1073741823)(hv:v<=1073741823)(h1: -8589934592<=o)(h2:o<=8589934592):IntKind.i64.wrap ((w:Int)+(v:Int))=(w:Int)+(v:Int)/\IntKind.i64.wrap ((w:Int)+(v:Int)+o)=(w:Int)+(v:Int)+o/\
 -8589934592<=((w:Int)+(v:Int)+o)/1073741824/\((w:Int)+(v:Int)+o)/1073741824<=8589934592:=by
 refine⟨?_,?_,oE,oE⟩;·rw[bR];omega
 ·rw[bR];omega
theorem set_mid{ms ws:List Nat}(hm:ms.length=m)(hw:m<ws.length)(d:Nat):(ms++ws.drop m).set m d=(ms++ [d])++ws.drop (m+1):=by subst hm;rw[gS _ _ pc,ga,cT hw,eQ];simp
theorem Row.own{w:World}{k:Nat}{l:List Int}(h:Row w b l)(hb:base<=b)(hk:k<=n)(hl:l.length=n)(hn:n<=1000000):w.ownsRow base 3 1 (.slice (some ⟨b,0,none⟩) k n) k ((l.take k).map (Value.int .i64)):=by refine⟨by simp[hl];omega,.inr ⟨b,n,_,rfl,hb,h,hk,by simp[maxLen];omega,by simp[hl],?_⟩⟩;rw[List.map_take,ij]
structure LS(w W4 W:World)(g qb cc n:Nat)(T:List Int)(Q:List Nat):Prop where
 u:Rw W g (n+1) cc T
 q:Row W qb (ints Q)
 kp:Keeps [g,qb] W4 W
 bl:Below w w W
theorem LS.drew{w W4 W:World}{g qb cc n:Nat}{T:List Int}{Q:List Nat}(h:LS w W4 W g qb cc n T Q):LS w W4 W.drew g qb cc n T Q:=⟨h.u,h.q,h.kp.drew,h.bl.drew⟩
theorem LS.FB{w:World}{g:Nat}(h:LS w W4 W g qb cc n T Q)(hne:qb≠g)(hg:w.heap.size<=g)(j:Nat)(x:Int):LS w W4 (W.setCell ⟨g,j,none⟩ (.int .i64 x)) g qb cc n (T.set j x) Q:=⟨h.u.put j x,h.q.uw hne j _,h.kp.setCell (p:=⟨g,j,none⟩) (.inl oO) _,h.bl.setCell (p:=⟨g,j,none⟩) hg _⟩
theorem LS.YG{w:World}{g:Nat}(h:LS w W4 W g qb cc n T Q)(hne:g≠qb)(hg:w.heap.size<=qb)(j:Nat)(x:Nat):LS w W4 (W.setCell ⟨qb,j,none⟩ (.int .i64 (x:Int))) g qb cc n T (Q.set j x):=⟨h.u.uw hne j _,by have:=h.q.put j (x:Int);rwa [ints_set]at this,h.kp.setCell (p:=⟨qb,j,none⟩) (.inl oO) _,h.bl.setCell (p:=⟨qb,j,none⟩) hg _⟩
theorem Wp{A B:Option Addr}{c k:Nat}{w:World}(hM:b_ M w)(hx:Sl Int w M A n c (ints (bC x)))(hy:Sl Int w M B k d (ints (bC y)))(hn:n<=4990)(hk2:2<=k)(hkn:k<=n):
 Calls prog 228 #[.slice A n c,.slice B k d] w fun e w'=>∃O q cO O2 q2 Z7,e=.returned (.tuple #[.slice O q cO,.slice O2 q2 Z7])/\Sl Int w' M O q cO (ints (bC (x/y)))/\Sl Int w' M O2 q2 Z7 (ints (bC (x%y)))/\Below w w w':=by
 refine wid ?_;have H:=Hd (hx.less (M':= []) oO);have G:=Hd (hy.less (M':= []) oO);have HM:=Hd hM;have l1:=hx.eu;have l2:=hy.eu;have c4:=hy.small;obtain⟨b0,o0,dt,rfl,bm,bQ,bn,-⟩:=hy.mG (aO y) (show k-1<k by omega);have b8:0<dt:=by have h:=iQ y;rw[mF,ki,l2,bn]at h;simp at h;omega
 obtain⟨s,YH,b6,bD,cy,cz⟩:=Wj b8 bQ;have lv:=Tc l2 oE bn bD;obtain⟨cd,ce⟩:=OW (s:=s) l1 YH;have ek:((k:Int)-1)=((k-1:Nat):Int):=oE;have kw:IntKind.i64.wrap ((k:Int)-1)=((k-1:Nat):Int):=by rw[bR];omega
 have kd:IntKind.u64.wrap (dt:Int)=(dt:Int):=by simp[IntKind.wrap,IntKind.bits,IntKind.signed];omega
 have P:=Hd7 l1 l2 lv cd ce b6 bD;clear hx hy hM l1 l2 lv cd ce bn b6 bD;refine ent func228 rfl ntmps228 ?_
 gi_wp2_with (first
  |(refine Cl 261 (wG (dt:Int) _ oE oE) ?_;rintro e w ⟨rfl,rfl⟩;rw[fp])
  |(refine⟨bq,?_⟩;gi_at_call 262;have g:=HV.out;clear g;refine Cn (Ic (A:=A) (c:=c) (x:=x) (H.out.keep (a_ HV.z [])) oE YH) ?_;rintro e w2 ⟨ub,ku,LU,rfl,ur,Td,uk,ul,ug,ut,uB⟩;have HU:=Hd7 ur Td uk ul ug ut uB;have bx:=ur.own (base:=w1.heap.size) Td uk (by rw[jm];exact ul) oE;rw[eG,ut]at bx;obtain⟨g,cc,S,a1,a2,a3,a4,a5,a6⟩:=Wn bx uB.size oE;have JR:=Hd a1;have HA:=oK a2 a3 a4 a5 a6;have bY:ku=(bC (x*2^s)).length:=by rw[<-ut,cI];omega
    have cT:n<=ku:=by rw[bY];exact P.d
    have cU:ku<=n+1:=uk;have cg:=nZ (k:=n+1) underlying190 (sz:=1) (fun w=>by kernel_rfl) (some ⟨g,0,none⟩) (n:=ku+2) (cp:=cc) oE a6;rw[show((n+1:Nat):Int)=(n:Int)+1 from by omega]at cg;have ar:=qR (t:=190) underlying190 (n-k+1) oE;obtain⟨W4,I4⟩:=aC (S.alloc (.cells ((List.replicate (n-k+1) (0:Int)).map (Value.int .i64)).toArray 3));replace ar:=ar S;rw[I4,show((n-k+1:Nat):Int)=(n:Int)-(k:Int)+1 from by omega]at ar;have H4:=Hd I4;clear ur Td uk ul ug ut uB bx a1 a2 a3 a4 a5 bY I4)
  |(refine⟨bq,?_⟩;gi_at_call 262;rw[P.f];refine Cn (Ic (A:=some ⟨b0,o0,none⟩) (c:=d) (x:=y) G.out oE YH) ?_;rintro e w1 ⟨vb,kk,LV,rfl,vr,ch,vk,vl,vg,vt,vB⟩;have cC:k=kk:=by
     have h:=gM List.length vt;rw[cI,P.c]at h;omega
    subst cC;have HV:=Hd7 vr ch vk vl vg vt vB;clear vr ch vk vl vg vt vB)
  |(gi_at_builtin;refine cY rfl fun K aL=>?_;refine aI _ _ _ rfl rfl rfl JR.out (aL _ _ ?_);clear aL K)
  |fail)
 have hU:=HU.out;have hV:=HV.out;obtain⟨a2,a3,a4,a5⟩:=HA.out;have ca:vb<w1.heap.size:=hV.1.lt;have cN:w.heap.size<=w1.heap.size:=hV.2.2.2.2.2.2.size;have cL:w1.heap.size<=ub:=hU.2.1;have cV:w1.heap.size<=w2.heap.size:=hU.2.2.2.2.2.2.size;have cZ:w1.heap.size<=g:=by
  rcases a5 with e|e;·have:ub=g:=eW e;omega
  omega
 have cX:g<S.heap.size:=(World.ownsRow.lt a2 g rfl).2;have c5:=a3.size;have bj:Below w1 w1 W4:=(hU.2.2.2.2.2.2.trans (a3.mono oE )).trans (by rw[<-H4.out];exact pd.alloc oE _);have bH:Below w w W4:=hV.2.2.2.2.2.2.trans (bj.mono cN);obtain⟨T,hT⟩:∃T,T=(bC (x*2^s)++ [0,0]).take (n+1):=⟨_,rfl⟩;have bd:(bC (x*2^s)).length=ku:=by rw[<-hU.2.2.2.2.2.1,cI,hU.2.2.2.1];omega
 have a8:T.length=n+1:=by rw[hT,cI,cH,bd];simp;omega
 have bV:Good (bC (x*2^s)++ [0,0]):=fun q hq=>by
  rcases cR.1 hq with hq|hq;·exact aO _ q hq
  simp at hq;rw[hq];exact eX
 have aQ:Good T:=by rw[hT];exact lD bV _
 have bJ:val (T.take (n+1))=x*2^s:=by
  rw[bL oE,hT];have e:=lX (bC (x*2^s)++ [0,0]) (n+1) (by rw[cH,bd];simp;omega);rw[val_append,bI]at e;have z1:val [0,0]=0:=rfl;have z2:val ((bC (x*2^s)++ [0,0]).drop (n+1))=0:=by
   rw[List.drop_append,cA oE,de,bd];rcases(show n+1-ku=0\/n+1-ku=1 by omega)with e|e;·rw[e];rfl
   rw[e];rfl
  rw[z1,z2]at e;omega
 have bA:Rw W4 g (n+1) cc (ints T):=by have h:=Rw.cut (g:=g) a2 rfl (m:=n+1) oE;rw[show ints (bC (x*2^s))++ [0,0]=ints (bC (x*2^s)++ [0,0]) by simp[ints],eG,<-hT]at h;exact h.go (by rw[<-H4.out];exact pd.alloc pc _)
 have b5:Row W4 S.heap.size (ints (List.replicate (n-k+1) 0)):=by rw[<-H4.out,<-lH];exact Row.new _ S
 have cb:Sl Int W4 [g,S.heap.size] (some ⟨vb,0,none⟩) k (k+1) (ints (bC (y*2^s))):=by
  have h:=(hV.1.go bj ca).sl (M:= [g,S.heap.size]) oS (n:=k+1) (by rw[jm];exact hV.2.2.2.1) oE (fU hV.2.2.2.2.1);have h2:=h.nY (k:=k) oE
  rwa [eG,hV.2.2.2.2.2.1]at h2
 have b2:=LI.start (s:=s) (T:=T) P.a P.b hkn oE bJ aQ oE;have bK:0<y*2^s:=by
  rcases eh (y*2^s)with e|e;·have:=P.c;rw[e,bU]at this;simp at this;omega
  exact e
 have V:=Hd2 cb bK;have aE:w.heap.size<=g:=oE;have be:w.heap.size<=S.heap.size:=oE;have bc:g≠S.heap.size:=oE;have b7:T=T.take (n-k+1)++((T.drop (n-k+1)).take k++T.drop (n+1)):=by
  have e1:T.take (n+1)=T.take (n-k+1)++(T.drop (n-k+1)).take k:=by exact XB
  rw[<-d_,<-e1,lO]
 rw[b7]at bA;have S0:=Hd2 b2 (LS.mk bA b5 (cF _ _) bH);clear bA b5 cb b2 bK bJ aQ bV a8 bd hT b7 bH a2 a3 a4 a5 hU hV HU HV HA H4 JR cg ar cL ca bj bm cy cz b8 bQ kd;gi_wp2;gi_loopw[10] (fun v wr=>∃(j:Nat) (lo rs rest Q:List Nat),j<=n-k+1/\v=.int .i64 ((j:Int)-1)/\Hid (LI (x*2^s) (y*2^s) (n+1) k (n-k+1) j lo rs rest Q)/\Hid (LS w W4 wr g S.heap.size cc n (ints (lo++(rs++rest))) Q)) (fun v _=>(intOf v+1).toNat);case atStart=>exact⟨n-k+1,_,_,_,_,bh _,by go_num,S0.a,S0.u⟩
 case round=>
  obtain⟨j,lo,rs,rest,Q,hj,rfl,hI,hS⟩:=hrel;rcases eh j with rfl|c3
  ·obtain⟨b3,cK,bz⟩:val Q=x/y/\val rs=(x%y)*2^s/\val ((rs++rest).take (n+1))=(x%y)*2^s:=by
     have h:=hI.out;have h0:lo= []:=c_.1 h.lol;subst h0;exact h.done oE
   have h0:lo= []:=c_.1 hI.out.lol;subst h0;have ad:=hS.out;rw[de]at ad;have a8:(rs++rest).length=n+1:=by have:=ad.u.len;rwa [jm]at this
   rw[bL (by rw[a8];exact bh _)]at bz;have aQ:Good (rs++rest):=fun q hq=>by
    rcases cR.1 hq with hq|hq;·exact hI.out.grs q hq
    exact hI.out.gz q hq
   have bS:g∉M:=fun e=>by have:=HM.out _ e;omega
   have cJ:S.heap.size∉M:=fun e=>by have:=HM.out _ e;omega
   have su:Sl Int wr.drew M (some ⟨g,0,none⟩) (n+1) cc (ints (rs++rest)):=ad.drew.u.sl bS oE (fU aQ);have bT:=hI.out.gq;have bZ:=hI.out.ql;have hp:0<2^s:=nL oR;have cG:2^s<=1073741824:=OU YH;have c8:IntKind.i64.wrap (2^s)=((2^s:Nat):Int):=by have e:(2:Int)^s=((2^s:Nat):Int):=oO;rw[e,bR];omega
   have bN:b_ M wr.drew:=HM.out.le ad.bl.size;have E:=Hd (And.intro su (And.intro aQ (And.intro bz (And.intro bT (And.intro bZ (And.intro b3 (And.intro ad.drew bN)))))));clear b3 cK bz ad a8 aQ bS su bT bZ hI hS bN;gi_wp2;refine ak [] [0,2,3,1,4,5,6,7,8] oF oF ?_;refine eH ?_;refine aH fun K hK=>aA rfl rfl wy fun K' aL=>?_;gi_wp2;refine Cm (jw _ _ _ (rs++rest) wr.drew E.a E.b) ?_;rintro e w5 ⟨q,rfl,hq,ht,aP⟩;have hs5:=(E.a.keep (a_ aP M)).nY hq;rw[eG,ht,E.c]at hs5;have H5:=Hd2 hs5 aP;clear hs5 ht;refine aL _ _ ⟨?_,hK _ _ ?_⟩;clear aL K' hK K;·exact a_ aP []
   refine lit ?_;refine eH ?_;refine aH fun K hK=>aA rfl rfl wy fun K' aL=>?_;gi_wp2;refine Cm (short_any (x:=(x%y)*2^s) (d:=2^s) (E.out.2.2.2.2.2.2.2.le aP.size) H5.a oE hp cG) ?_;rintro e w6 ⟨O2,q2,c2,rfl,bB,bk⟩;rw[Nat.mul_div_cancel _ hp]at bB;have H6:=Hd2 bB (aP.trans (bk.mono aP.size));clear bB;refine aL _ _ ⟨?_,hK _ _ ?_⟩;clear aL K' hK K;·exact a_ bk []
   refine lit ?_;refine eH ?_;refine aK ?_;refine lit ?_;have hb:=H6.u;have sq:Sl Int w6 M (some ⟨S,0,none⟩) (n-k+1) (n-k+1) (ints Q):=(E.out.2.2.2.2.2.2.1.q.go hb E.out.2.2.2.2.2.2.1.q.lt).sl cJ (by rw[jm];exact E.e) oE (fU E.d);have SQ:=Hd sq;clear sq hb aP bk;gi_wp2_with (refine Cl 186 (jw _ _ _ Q _ SQ.out E.d) ?_;rintro e w7 ⟨q3,rfl,b4,b9,bM⟩;have H7:=fB b4 b9 bM;clear b4 b9 bM)
   have hs7:=(SQ.out.keep (a_ H7.v M)).nY H7.a;rw[eG,H7.b,E.f]at hs7;go_ret2;exact⟨_,q3,_,O2,q2,c2,rfl,hs7,H6.a.keep (a_ H7.v M),E.out.2.2.2.2.2.2.1.bl.trans ((H6.u.trans (H7.v.mono H6.u.size)).mono E.out.2.2.2.2.2.2.1.bl.size)⟩
  ·obtain⟨i,rfl⟩:∃i,j=i+1:=⟨j-1,oE⟩;have ei:((i+1:Nat):Int)-1=(i:Int):=oE;rw[ei];obtain⟨a7,dd,ws,t,hlo,aV,bb,a0,Wq,bE,b1,aT⟩:=hI.out.window;have ad:=hS.out;rw[LI.shape (rest:=rest) hlo bb,<-Wi]at ad;obtain⟨u1,aW⟩:=dW ws (k-1) oE;obtain⟨u2,aX⟩:=dW ws (k-2) oE;have cs:=g_ (Wq u1 (aR aW));have ct:=g_ (Wq u2 (aR aX));have cu:=g_ bE;obtain⟨bv,ov,v1,Tf,aS,cj,YI,-⟩:=(V.a.keep ad.kp).mG (aO _) (show k-1<k by omega);obtain⟨cW,da,v2,ck,aZ,cl,bi,-⟩:=(V.a.keep ad.kp).mG (aO _) (show k-2<k by omega);cases Tf;cases ck;rw[dm]at aS aZ;have cm:0<v1:=by
    have h:=iQ (y*2^s);rw[mF,ki,P.c,YI]at h;simp at h;omega
   have a9:wr.cell? ⟨g,i+k,none⟩=some (.int .i64 (t:Int)):=ad.u.cell (zA aV a0);have bP:wr.cell? ⟨g,i+(k-1),none⟩=some (.int .i64 (u1:Int)):=ad.u.cell (wE aV aW);have ba:wr.cell? ⟨g,i+(k-2),none⟩=some (.int .i64 (u2:Int)):=ad.u.cell (wE aV aX);have c0:i+k<n+1:=by have:=hI.out.jl;omega
   have bW:GS (ws++ [t]) (bC (y*2^s)) k t u1 u2 v1 v2:=by
    refine⟨?_,aO _,?_,?_,?_,by simp[a0],bi,YI,P.c,cm,by rw[bI];exact V.u,?_,hk2⟩;·exact zu Wq bE
    ·rw[di oE];exact aX
    ·rw[di oE];exact aW
    ·rw[cM oE,a0,ga];rfl
    rw[<-bb,bI];exact hI.out.less aT
   have W:=Hd (And.intro ad (And.intro hlo (And.intro aV (And.intro bb (And.intro a0 (And.intro Wq (And.intro b1 (And.intro aT (And.intro aW (And.intro aX (And.intro YI bi)))))))))));clear hlo aV bb a0 Wq b1 aT aW aX YI bi bE ei hS hj;have s0:=ah a9;have s1:=ah bP;have k1:IntKind.i64.wrap ((i:Int)+(k:Int))=(i:Int)+(k:Int):=by rw[bR];omega
   have k2:IntKind.i64.wrap ((i:Int)+(k:Int)-1)=(i:Int)+((k-1:Nat):Int):=by rw[bR];omega
   obtain⟨hd,dq,g0,bX,k4,aT,k5,k6,k7,k3⟩:=OX (v1:=v1) cu cs;have k8:¬v1=0:=oE;have cn:wr.drew.cell? ⟨vb,k-1,none⟩=some (.int .i64 (v1:Int)):=aS;have HH:=Hd bX;clear bX;have j1:(0:Int)<=(i:Int)+(k:Int):=oE;have j2:(i:Int)+(k:Int)<(n:Int)+1:=oE;have j3:((i:Int)+(k:Int)).toNat=i+k:=oE;have j4:(0:Int)<=(i:Int)+((k-1:Nat):Int):=oE;have j5:(i:Int)+((k-1:Nat):Int)<(n:Int)+1:=oE;have j6:((i:Int)+((k-1:Nat):Int)).toNat=i+(k-1):=oE;gi_wp2;refine ak [] (List.range 16) oF oF ?_;simp only[show List.range 16= [0,1,2,3,4,5,6,7,8,9,10,11,12,13,14,15]from rfl];refine eH ?_;refine aK ?_;refine lit ?_;gi_wp2;have bf:=Hd bW;have ci:=Hd ad.drew;clear bW a9 bP ba aS aZ cn s0 s1 k4 k5 k6 k7 k3 ad;gi_loopw[12] (fun v wr=>∃r:Nat,v=.int .i64 r/\r<=1073741823/\Hid (lZ (ws++ [t]) (bC (y*2^s)) r/\r*v1<=hd)/\Hid (LS w W4 wr g S.heap.size cc n (RR a7 ws (t:Int) rest) Q)) (fun v _=>(intOf v).toNat);case atStart=>exact⟨g0,rfl,by rw[HH.v];exact Nat.min_le_right _ _,by rw[HH.v,HH.a];exact bf.out.start,ci.out⟩
   case round=>
    obtain⟨r,rfl,bp,hG,aM⟩:=hrel;obtain⟨X,Y,hX,f1,f2,f3,f4,f5⟩:=OY aT bp cj cl ct hG.u;have a9:wr.cell? ⟨g,i+k,none⟩=some (.int .i64 (t:Int)):=aM.out.u.cell (zA W.c W.e);have ba:wr.cell? ⟨g,i+(k-2),none⟩=some (.int .i64 (u2:Int)):=aM.out.u.cell (wE W.c W.out.2.2.2.2.2.2.2.2.2.1);have kv:=V.a.keep aM.out.kp;have aS:wr.cell? ⟨vb,k-1,none⟩=some (.int .i64 (v1:Int)):=by
     obtain⟨bv,ov,q,Tf,h1,-,h2,-⟩:=kv.mG (aO _) (show k-1<k by omega);cases Tf;rw[W.out.2.2.2.2.2.2.2.2.2.2.1]at h2;cases h2
     rwa [dm]at h1
    have aZ:wr.cell? ⟨vb,k-2,none⟩=some (.int .i64 (v2:Int)):=by
     obtain⟨bv,ov,q,Tf,h1,-,h2,-⟩:=kv.mG (aO _) (show k-2<k by omega);cases Tf;rw[W.out.2.2.2.2.2.2.2.2.2.2.2]at h2;cases h2
     rwa [dm]at h1
    have s1:=ah aS;have s2:=ah aZ;have s3:=ah ba;have c9:IntKind.i64.wrap ((k:Int)-2)=((k-2:Nat):Int):=by rw[bR];omega
    have k9:IntKind.i64.wrap ((i:Int)+(k:Int)-2)=(i:Int)+((k-2:Nat):Int):=by rw[bR];omega
    have j7:(0:Int)<=(i:Int)+((k-2:Nat):Int):=oE;have j8:(i:Int)+((k-2:Nat):Int)<(n:Int)+1:=oE;have j9:((i:Int)+((k-2:Nat):Int)).toNat=i+(k-2):=oE;have c6:k-1<k:=oE;have c7:k-2<k:=oE;have FX:=Hd2 hX f5;have KV:=Hd kv;clear hX f5 kv a9 ba aS aZ ek;by_cases hc:Y<(r:Int)*(v2:Int)/\X<=1073741823;·obtain⟨c1,c2⟩:=hc;have q1:decide (Y<(r:Int)*(v2:Int))=true:=cw c1;have q2:decide ((X:Int)<=1073741823)=true:=cw oE;gi_wp2;refine ak [] (List.range 38) oF oF ?_;simp only[show List.range 38= [0,1,2,3,4,5,6,7,8,9,10,11,12,13,14,15,16,17,18,19,20,21,22,23,24,25,26,27,28,29,30,31,32,33,34,35,36,37]from rfl];refine eH ?_;refine aK ?_;refine lit ?_;gi_wp2;have aU:=hG.u;rw[HH.a]at aU;have hX:=FX.a;rw[HH.a]at hX;obtain⟨e1,e2,e3⟩:=bf.out.less hG.a aU hX (by have h1:=FX.u c2;have h2:((r*v2:Nat):Int)=(r:Int)*(v2:Int):=eJ ..;omega);rw[<-HH.a]at e3;exact⟨⟨r-1,by congr 1;omega,oE,⟨e2,e3⟩,aM.out.drew⟩,by simp[intOf];omega⟩
    ·have QA:r*val (bC (y*2^s))<=val (ws++ [t])+val (bC (y*2^s)):=by
       have aU:=hG.u;rw[HH.a]at aU;have hX:=FX.a;rw[HH.a]at hX;refine bf.out.done hG.a aU hX ?_;by_cases c2:X<=1073741823;·right;have h1:=FX.u c2;have h2:((r*v2:Nat):Int)=(r:Int)*(v2:Int):=eJ ..;have h3:¬Y<(r:Int)*(v2:Int):=fun e=>hc ⟨e,c2⟩;omega
       ·left;exact cf (show BB-1<1073741824 by decide) oE
     have HN:=Hd QA;clear QA;have cB:(decide (Y<(r:Int)*(v2:Int))=false)\/(decide (Y<(r:Int)*(v2:Int))=true/\decide ((X:Int)<=1073741823)=false):=by
      by_cases c1:Y<(r:Int)*(v2:Int);·right;exact⟨cw c1,cE (fun e=>hc ⟨c1,oE⟩)⟩
      left;exact cE c1
     clear hc;rcases cB with q1|⟨q1,q2⟩;·exact rZ
     exact rZ
end
