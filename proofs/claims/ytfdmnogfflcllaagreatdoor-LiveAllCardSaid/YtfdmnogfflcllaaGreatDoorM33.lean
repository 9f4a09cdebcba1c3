/- Lemmas -/
import Derived.Lib.AppendZerosOnto
import Derived.Lib.Overlaps
import Derived.Test.YtfdmnogfflcllaaGreatDoorM32
set_option linter.all false
set_option maxRecDepth 100000
set_option maxHeartbeats 0
namespace Go.Proofs.YtfdmnogfflcllaaGreatDoor
open Go.Proofs.Tryz Go.RowKit Go.Shelf
variable {P:Program}{e t:TypeId}{w':World}{v' u:Value}{cs us:List Value}{a b s sz cp k g cap:Nat}
theorem aax(w:World)(dT sT ty elem:TypeId)(g o dLen dCap:Nat)(a:Addr)(sLen sCap sz k:Nat)(cur:Array Value)(t:TypeId)(cs:List Value)
 (hu:P.underlying dT=some (.slice elem)) (hs:(P.info? elem).map (·.size)=some sz)
 (hg:w.heap[g]?=some (.cells cur t (0,0))) (hk:Nat.min sLen dLen=k) (hn:cs.length=k*sz)
 (hsrc:∀j v,cs[j]?=some v->w.cell? (a.add j)=some v) (hfit:o+cs.length<=cur.size) (h1:∀v∈cs,v.oneCell'=true):
 (Builtin.copy_ #[dT,sT] ty #[.slice (some ⟨g,o,none⟩) dLen dCap,.slice (some a) sLen sCap]).run P w=.ok (goInt k) (w.setRow g (cur.toList.take o++cs++cur.toList.drop (o+cs.length)).toArray):=by
 have r:=run_loadCells_list (P:=P) w a cs hsrc;have f:=run_storeCells_at P g o t cs 0 cur w hg (by simpa using hfit) h1
 cases c:P.info? elem with
 |none=>simp[c]at hs
 |some i=>
  have d:i.size=sz:=by simpa[c]using hs
  simp[Builtin.copy_,run_underlying hu,Builtin.lenOf,Builtin.firstCells,sizeOf,typeInfo,c,d,hk,<-hn,r,f]
theorem bD.aiG{α:Type} [kJ α] {w:World}{M:List Nat}{base n i:Nat}{v:Value}{xs:List α}{x:α}
 (hl:xs.length=n) (hi:i<=n) (hcl:cs.length=n*Rep.sz α) (hcs:∀k y,xs[k]?=some y->∃es,Rep.rd w (bP v++M) y es/\∀j u,es[j]?=some u->cs[k*Rep.sz α+j]?=some u)
 (hx:Rep.rd w (bP v++M) x us) (hk:∀(y:α) es,Rep.rd w (bP v++M) y es->Rep.rd w' (bP v'++M) y es)
 (hr:w'.ownsRow base e (Rep.sz α) v' (n+1) (cs.take (i*Rep.sz α)++us++cs.drop (i*Rep.sz α))):
 bD α e w' M base v' (n+1) (xs.take i++x::xs.drop i):=by
 have z:=oO hx;have D:=dy (Rep.sz α) hi;have m:(cs.take (i*Rep.sz α)).length=i*Rep.sz α:=by rw[cI,hcl];omega
 refine⟨by simp only[cJ,eh,cI,eJ];omega,_,hr,fun k y d=>?_⟩;by_cases o:k<i
 ·rw[dk (by rw[cI];omega),eQ o]at d;obtain⟨es,a,b⟩:=hcs k y d;refine⟨es,hk y es a,fun j u c=>?_⟩;have C:j<Rep.sz α:=by rw[<-oO a];exact(bu.1 c).1
  have f:=dy (Rep.sz α) (show k+1<=i by omega);rw[fY,fh]at f;rw[dz,dk pj,eQ pj];exact b j u c
 ·rw[cQ (by rw[cI];omega),cI,gC pj]at d;by_cases f:k=i;·subst f;rw[gA,iz]at d;cases d;refine⟨us,hk _ us hx,fun j u c=>?_⟩;have C:=(bu.1 c).1;rw[dz,cQ pj,m,dk pj,Nat.add_sub_cancel_left];exact c
  rw[show k-i=(k-1-i)+1 by omega,fI,fy]at d;obtain⟨es,a,b⟩:=hcs (i+(k-1-i)) y d;rw[show i+(k-1-i)=k-1 by omega]at b;refine⟨es,hk y es a,fun j u c=>?_⟩;have r:=dy (Rep.sz α) (show i+1<=k by omega);have F:k*Rep.sz α=(k-1)*Rep.sz α+Rep.sz α:=by rw[<-Nat.succ_mul];congr 1;omega
  rw[fY,fh]at r;rw[cQ (by rw[cJ];omega),cJ,m,z,fy,show i*Rep.sz α+(k*Rep.sz α+j-(i*Rep.sz α+Rep.sz α))=(k-1)*Rep.sz α+j by omega];exact b j u c
theorem ahm{cur:List Value}(hab:a<=b)(hb:b+s<=cur.length)(hu:us.length=s):
 let c1:=cur.take (a+s)++(cur.take b).drop a++cur.drop (a+s+((cur.take b).drop a).length);let c2:=c1.take a++us++c1.drop (a+us.length)
 c2.take (b+s)=(cur.take b).take a++us++(cur.take b).drop a/\c2.length=cur.length:=by
 intro c1 c2;have r:((cur.take b).drop a).length=b-a:=by rw[eJ,cI];omega
 have c:c1=cur.take (a+s)++((cur.take b).drop a++cur.drop (b+s)):=by show cur.take (a+s)++(cur.take b).drop a++cur.drop (a+s+((cur.take b).drop a).length)=_;rw[r,dz,show a+s+(b-a)=b+s by omega]
 have H:c1.take a=cur.take a:=by rw[c,List.take_append_of_le_length (by rw[cI];omega),List.take_take,gC pj]
 have O:c1.drop (a+us.length)=(cur.take b).drop a++cur.drop (b+s):=by rw[c,hu];exact List.drop_left' (by rw[cI];omega)
 have d:c2=cur.take a++us++((cur.take b).drop a++cur.drop (b+s)):=by show c1.take a++us++c1.drop (a+us.length)=_;rw[H,O]
 have X:(cur.take b).take a=cur.take a:=by rw[List.take_take,gC hab]
 refine⟨?_,?_⟩;·rw[d,<-dz,List.take_append_of_le_length (by simp only[cJ,r,hu,cI];omega),bR (by simp only[cJ,r,hu,cI];omega),X]
 ·rw[d];simp only[cJ,r,hu,cI,eJ];omega
theorem afX{row:List Value}(hab:a<=b)(hc:cs.length=b)(hr:b+s<=row.length)(h0:row.take a=cs.take a)(hu:us.length=s):
 let c1:=row.take a++us++row.drop (a+us.length);let c2:=c1.take (a+s)++cs.drop a++c1.drop (a+s+(cs.drop a).length)
 c2.take (b+s)=cs.take a++us++cs.drop a/\c2.length=row.length:=by
 intro c1 c2;have r:(cs.drop a).length=b-a:=by rw[eJ];omega
 have c:(cs.take a).length=a:=by rw[cI];omega
 have d:c1=(cs.take a++us)++row.drop (a+s):=by show row.take a++us++row.drop (a+us.length)=_;rw[h0,hu]
 have H:c1.take (a+s)=cs.take a++us:=by rw[d];exact List.take_left' (by rw[cJ,c,hu])
 have O:c1.drop (a+s+(cs.drop a).length)=row.drop (b+s):=by rw[d,r,List.drop_append,cB (by rw[cJ,c,hu];omega),df,cJ,c,hu,List.drop_drop];congr 1;omega
 have f:c2=cs.take a++us++cs.drop a++row.drop (b+s):=by show c1.take (a+s)++cs.drop a++c1.drop (a+s+(cs.drop a).length)=_;rw[H,O]
 refine⟨?_,?_⟩;·rw[f];exact List.take_left' (by simp only[cJ,c,hu,r];omega)
 ·rw[f];simp only[cJ,c,hu,r,eJ];omega
theorem acu{F:Fence}{n:Nat}{Q:Exit->Act->World->Prop}{K:Act->World->Prop}{o:Oper}{a:Act}{w:World}(x y:Operand)(t tn:TypeId){v:Value}
 (ho:o.op=.call { callee:=.builtin .copy,args:=#[x,y],argTypes:=#[t,tn] }) (hx:a.eval x=v) (hy:a.eval y=u)
 (hr:(Builtin.copy_ #[t,tn] o.type #[v,u]).run P w=.ok v' w') (hk:K (a.put o.dst v') w'):o.wpIn F n P a w K Q:=by
 have c:Oper.mild o=true:=by unfold Oper.mild;rw[ho]
 unfold Oper.wpIn;refine⟨jP c w _,?_⟩;rw[sF c];exact Ip
theorem aaU(ht:prog.underlying t=some (.slice e))(hz:∀w,(sizeOf e).run prog w=.ok sz w)(g o:Nat){n:Nat}(hk:k<=n)(hc:cp≠k)(w:World):
 (Instr.sliceAt t (.slice (some ⟨g,o,none⟩) n cp) (some (.int .i64 (k:Int))) none none).run prog w=.ok (.slice (some ⟨g,o+k*sz,none⟩) (n-k) (cp-k)) w:=by
 rw[NJ ht hz (some ⟨g,o,none⟩) hk w,wZ,if_neg hc,gw,eT]
section
attribute [local go_sem] cX
def ad4(M:List Nat)(base n:Nat)(v:Value)(l:List Rt)(w:World)(e:Ending)(w':World):Prop:=∃v',e=.returned v'/\bD fC 48 w' M base v' (n+1) (l.map jd)/\KpO (bP v) w w'/\(v'.ownBlock=v.ownBlock\/∃k,v'.ownBlock=some k/\w.heap.size<=k)
theorem aal(w:World):(sizeOf 48).run prog w=.ok 4 w:=pk
theorem afi{α:Type} [kJ α] {w:World}{M:List Nat}{base n:Nat}{v:Value}{xs:List α}(h:bD α e w M base v n xs):∃A c,v=.slice A n c/\(A=none->n=0):=by
 obtain⟨cs,d,-⟩:=h.ex;rcases d.2 with⟨rfl,rfl⟩|⟨g,cap,f,rfl,-⟩;·exact⟨none,0,rfl,fun _=>rfl⟩
 exact⟨_,cap,rfl,fun h=>(by cases h)⟩
section
variable {M:List Nat}{base n vb i:Nat}{v:Value}{l:List Rt}{x:Rt}{p q:Bool}{A B:Option Addr}{n1 c1 m1 d1:Nat}{w:World}
theorem ad5(h:bD fC 48 w M base v n (l.map jd))(hb:base<=w.heap.size)(hn:n<=10000)(hy:Sl fC w (bP v++M) (some ⟨vb,0,none⟩) 1 1 [jd x]):
 Calls prog 70 #[v,.int .i64 n,.slice (some ⟨vb,0,none⟩) 1 1] w (ad4 M base n v (l++ [x]) w):=by
 refine wid ?_;obtain⟨L,N,o,r,y,z,C⟩:=Iq;have m:(n+1)*L.bytes<=140737488355328:=cF (fS (show n+1<=10001 by omega) C) pt;obtain⟨v',w',D,T,d,E⟩:=h.uy (t:=37) (ty:=37) hb underlying37 o r y z hy m pj;obtain⟨f,c,rfl,H⟩:=afi h;have sl:=NJ (n:=n) (cp:=c) (k:=n) underlying37 aal f pD;have G:=Hd D;have F:=Hd (show ad4 M base n (.slice f n c) (l++ [x]) w (.returned v') w' from⟨v',rfl,by rw[ed];exact T,⟨⟨d.size,fun k I J=>d.block k I (fun e=>J (bJ.2 e.symm))⟩,d.os,d.tape,d.output⟩,by
  rcases E with e|e;·exact .inl e
  exact .inr ⟨_,e,bj _⟩⟩)
 clear h hy m D T d E H o r y z C;refine ent func70 ntmps70 ?_
 gi_wp2_with (first
  |(gi_at_builtin;refine c_ rfl fun K j=>?_;refine aI _ _ _ rfl rfl rfl G.out (j _ _ ?_);clear j K)
  |fail)
 go_ret;exact F.out
theorem cells_one{xs:List fC}{N:List Nat}(hl:xs.length=n)(hcl:cs.length=n*4)(h2:∀k y,xs[k]?=some y->∃es,Rep.rd w N y es/\∀j u,es[j]?=some u->cs[k*4+j]?=some u):∀u,u∈cs->u.oneCell'=true:=fun u hu=>by
 obtain⟨j,hj⟩:=gN hu;have hjl:=(bu.1 hj).1;have hk:j/4<xs.length:=pj;obtain⟨es,a,b⟩:=h2 _ _ (cd hk);have hm:j%4<es.length:=by rw[oO a];exact k_ _ pt
 have:=b _ _ (cd hm);rw[show j/4*4+j%4=j by omega,hj]at this;cases this;exact kJ.one a _ (fN hm)
theorem afj(ht:prog.underlying t=some (.slice e))(hz:∀w,(sizeOf e).run prog w=.ok sz w)(A:Option Addr){n:Nat}(hk:k<=cp)(w:World):
 (Instr.sliceAt t (.slice A n cp) none (some (.int .i64 (k:Int))) none).run prog w=.ok (.slice A k cp) w:=by
 have c:prog.elem t=e:=by simp[Program.elem,ht]
 have d:prog.underlying t=some (.slice (prog.elem t)):=by rw[c];exact ht
 rw[run_sliceAt_slice w t _ _ _ _ d,run_slice_h w t A n cp d .i64 (k:Int) pj pj,c,hz];exact Iw
theorem abm:(prog.info? 48).map (·.size)=some 4:=pk
abbrev usQ(p q:Bool)(A B:Option Addr)(n1 c1 m1 d1:Nat):List Value:= [p,.slice A n1 c1,q,.slice B m1 d1]
theorem aeo(l:List Rt)(x:Rt)(i:Nat):(l.take i++x::l.drop i).map jd=(l.map jd).take i++jd x::(l.map jd).drop i:=by rw[ed,eV,List.map_take,List.map_drop]
theorem afk:∀u,u∈usQ p q A B n1 c1 m1 d1->u.oneCell'=true:=fun u hu=>by simp only[usQ,cD,eo,iB]at hu;rcases hu with rfl|rfl|rfl|rfl<;>rfl
theorem aa6(w:World)(g:Nat)(cs:Array Value):KpO [g] w (w.setRow g cs):=⟨⟨by rw[setRow_size];exact bj _,fun k _ hm=>setRow_other w g k cs (fun e=>hm (by simp[e]))⟩,rfl,rfl,rfl⟩
theorem acv{w:World}{j:Nat}(h:w.heap[b]?=some (.cells us.toArray t (0,0)))(hu:us[j]?=some u):w.cell? ⟨b,j,none⟩=some u:=by simp[World.cell?,h,hu]
theorem aeE(h:bD fC 48 w M base (.slice (some ⟨g,0,none⟩) n cap) n (l.map jd))(hi:i<n)(hr:n+1<=cap)(hv:w.heap[vb]?=some (.cells (usQ p q A B n1 c1 m1 d1).toArray 48 (0,0)))(hg:vb≠g)(qx:QC w (bP (.slice (some ⟨g,0,none⟩) n cap)++M) x p q A n1 c1 B m1 d1):
 ∃w1 w2,(∀ty,(Builtin.copy_ #[37,37] ty #[.slice (some ⟨g,(i+1)*4,none⟩) (n+1-(i+1)) (cap-(i+1)),.slice (some ⟨g,i*4,none⟩) (n+1-i) (cap-i)]).run prog w.drew=.ok (goInt ((n-i:Nat):Int)) w1)/\
  (∀ty,(Builtin.copy_ #[37,37] ty #[.slice (some ⟨g,i*4,none⟩) (n+1-i) (cap-i),.slice (some ⟨vb,0,none⟩) 1 1]).run prog w1=.ok (goInt 1) w2)/\
  bD fC 48 w2 M base (.slice (some ⟨g,0,none⟩) (n+1) cap) (n+1) ((l.take i++x::l.drop i).map jd)/\KpO [g] w w2/\(∃cur,w.heap[g]?=some (.cells cur 48 (0,0))/\cur.size≠0):=by
 obtain⟨cs,H,I⟩:=h.ex;have F:cs.length=n*4:=H.1;rcases H.2 with⟨e,_⟩|⟨g',aa,cur,e,T,r,ab,W,f,C⟩;·cases e
 cases e;have f:cur.size=cap*4:=f;have C:cur.toList.take (n*4)=cs:=C;have Y:=cells_one h.len F I;have V:∀j u,cs[j]?=some u->w.drew.cell? ⟨g,j,none⟩=some u:=fun j u c=>by have hj:=(bu.1 c).1;rw[<-C,eQ pj,jj]at c;have X:w.drew.heap[g]?=_:=r;simp[World.cell?,X,c]
 have G:(cs.drop (i*4)).length=(n-i)*4:=by rw[eJ,F];omega
 have O:=fun ty=>aax (P:=prog) w.drew 37 37 ty 48 g ((i+1)*4) (n+1-(i+1)) (cap-(i+1)) ⟨g,i*4,none⟩ (n+1-i) (cap-i) 4 (n-i) cur 48 (cs.drop (i*4)) underlying37 abm r (by simp only[Nat.min_def];split<;>omega) G (fun j u c=>by rw[eT];rw[fy]at c;exact V _ u c) (by rw[G,f];omega) (fun u c=>Y u (lA c));obtain⟨m,E⟩:=aC (cur.toList.take ((i+1)*4)++cs.drop (i*4)++cur.toList.drop ((i+1)*4+(cs.drop (i*4)).length));rw[E]at O;obtain⟨w1,D⟩:=aC (w.drew.setRow g m.toArray);have K:w1.heap[g]?=some (.cells m.toArray 48 (0,0)):=by rw[<-D];exact setRow_heap w.drew g cur _ _ _ r
 have Z:w1.heap[vb]?=some (.cells (usQ p q A B n1 c1 m1 d1).toArray 48 (0,0)):=by rw[<-D,setRow_other _ _ _ _ hg];exact hv
 have d:=ahm (cur:=cur.toList) (us:=usQ p q A B n1 c1 m1 d1) (a:=i*4) (b:=n*4) (s:=4) pj (by rw[gG,f];omega) rfl;rw[C,show i*4+4=(i+1)*4 by omega,show n*4+4=(n+1)*4 by omega]at d;simp only[E]at d;have Q:m.length=cap*4:=by rw[<-E];simp only[cJ,G,cI,eJ,gG,f];omega
 obtain⟨o,J⟩:=aC (m.take (i*4)++usQ p q A B n1 c1 m1 d1++m.drop (i*4+(usQ p q A B n1 c1 m1 d1).length));have r2:∀ty,(Builtin.copy_ #[37,37] ty #[.slice (some ⟨g,i*4,none⟩) (n+1-i) (cap-i),.slice (some ⟨vb,0,none⟩) 1 1]).run prog w1=.ok (goInt (1:Nat)) (w1.setRow g o.toArray):=fun ty=>by have h:=aax (P:=prog) w1 37 37 ty 48 g (i*4) (n+1-i) (cap-i) ⟨vb,0,none⟩ 1 1 4 1 m.toArray 48 (usQ p q A B n1 c1 m1 d1) underlying37 abm K (by simp only[Nat.min_def];split<;>omega) rfl (fun j u c=>by rw[eT,dC];exact acv Z c) (by rw[lO,Q];show i*4+4<=_;omega) afk;rw[<-J];exact h
 simp only[J]at d;have k1:KpO [g] w w1:=by rw[<-D];exact(KpO.refl [g] w).drew.trans (aa6 _ _ _)
 have N:=k1.trans (aa6 w1 g o.toArray);refine⟨w1,w1.setRow g o.toArray,fun ty=>by rw[O ty,D],r2,?_,N,cur,r,pj⟩;rw[aeo];refine bD.aiG (v:=.slice (some ⟨g,0,none⟩) n cap) h.len (cY hi) F I (us:=usQ p q A B n1 c1 m1 d1) ?_ (fun y es hy=>jf hy (N.k.mono fun z L=>by simp at L;subst L;exact di _ (bJ.2 rfl))) ?_;·have R:(jd x).1.1=p:=qx.num.neg;have S:(jd x).2.1=q:=qx.den.neg;rw[<-R,<-S];exact JB (x:=jd x) qx.num.sl qx.den.sl
 ·refine⟨?_,.inr ⟨g,cap,o.toArray,rfl,T,setRow_heap w1 g _ _ _ _ K,hr,W,?_,?_⟩⟩;·show(cs.take (i*4)++usQ p q A B n1 c1 m1 d1++cs.drop (i*4)).length=(n+1)*4;rw[<-d.1,cI,d.2,gG,f];omega
  ·show o.toArray.size=cap*4;rw[lO,d.2,gG,f]
  show o.toArray.toList.take ((n+1)*4)=_;rw[List.toList_toArray];exact d.1
theorem ade(h:bD fC 48 w M base (.slice (some ⟨g,0,none⟩) n cap) n (l.map jd))(hn:n<=10000)(hi:i<n)(hr:n+1<=cap)(hv:w.heap[vb]?=some (.cells (usQ p q A B n1 c1 m1 d1).toArray 48 (0,0)))(hg:vb≠g)(qx:QC w (bP (.slice (some ⟨g,0,none⟩) n cap)++M) x p q A n1 c1 B m1 d1):
 Calls prog 70 #[.slice (some ⟨g,0,none⟩) n cap,.int .i64 i,.slice (some ⟨vb,0,none⟩) 1 1] w (ad4 M base n (.slice (some ⟨g,0,none⟩) n cap) (l.take i++x::l.drop i) w):=by
 refine wid ?_;obtain⟨w1,L,d,T,C,y,F,r,m⟩:=aeE h hi hr hv hg qx;have S:cap<=9223372036854775807:=by
  obtain⟨cs,G,-⟩:=h.ex;rcases G.2 with⟨e,_⟩|⟨Q,N,O,e,-,-,-,H,-⟩;·cases e
  cases e;simpa[maxLen]using H
 have D:=Hd (show ad4 M base n (.slice (some ⟨g,0,none⟩) n cap) (l.take i++x::l.drop i) w (.returned (.slice (some ⟨g,0,none⟩) (n+1) cap)) L from⟨_,rfl,C,y.mono (fun z m=>by simp at m;subst m;exact bJ.2 rfl),.inl rfl⟩);have I:=fun(w:World)=>aaU (n:=n) (cp:=cap) (k:=i) underlying37 aal g 0 (cY hi) pj w;have s1:∀w,(Instr.sliceAt 37 (.slice (some ⟨g,0,none⟩) n cap) none (some (.int .i64 ((n:Int)+1))) none).run prog w=.ok (.slice (some ⟨g,0,none⟩) (n+1) cap) w:=fun w=>afj (k:=n+1) underlying37 aal _ hr w;have J:=fun(w:World)=>aaU (n:=n+1) (cp:=cap) (k:=i) underlying37 aal g 0 pj pj w;have s3:∀w,(Instr.sliceAt 37 (.slice (some ⟨g,0,none⟩) (n+1) cap) (some (.int .i64 ((i:Int)+1))) none none).run prog w=.ok (.slice (some ⟨g,(i+1)*4,none⟩) (n+1-(i+1)) (cap-(i+1))) w:=fun w=>by have:=aaU (n:=n+1) (cp:=cap) (k:=i+1) underlying37 aal g 0 pj pj w;rw[dC]at this;exact this
 simp only[dC]at I J;have X:∀lb c,(callFunc 123 #[.slice (some ⟨vb,0,none⟩) 1 1,.slice (some ⟨g,(i+1)*4,none⟩) lb c]).run prog w=.ok (.value false) w:=fun lb c=>by rw[run_callFunc_extern func123 pk pk pk (e:=Extern.SlicesOverlaps.overlaps #[37,37] #[4]) pk,Lib.run_overlaps_apart w 37 4 48 underlying37 4 aal ⟨vb,0,none⟩ ⟨g,(i+1)*4,none⟩ 1 1 lb c hg 48 48 4 F.size (by simp[World.shape?,hv]) (by simp[World.shape?,r]) m (by simp[World.frozen?,hv]) (by simp[World.frozen?,hv])];rfl
 have W:¬((i:Int)=(n:Int)):=pj;have V:((i:Int)==(n:Int))=false:=px;rw[show n+1-(i+1)=n-i by omega]at d;have f:=Hd2 d T;have Y:IntKind.i64.wrap ((i:Int)+1)=(i:Int)+1:=by rw[cA];omega
 have Z:IntKind.i64.wrap ((n:Int)+1)=(n:Int)+1:=by rw[cA];omega
 clear h hv hg qx d T C y r m;refine ent func70 ntmps70 ?_;gi_wp2_with (first|(refine⟨bO,?_⟩))
 refine iF [] 8 1 [0,1,2,3,4,5,6,7] pk pk rfl ?_;refine eH ?_;refine aK ?_;refine jW fun K j E o=>?_;refine acu _ _ _ _ rfl rfl rfl (f.out.1 _) (o _ _ (j _ _ ?_));clear j K o E;refine et _ ?_;have R:=f.out.2 3;gi_wp2;go_ret;exact D.out
theorem afl(h:bD fC 48 w M base (.slice (some ⟨g,0,none⟩) n cap) n (l.map jd))(hn:n<=10000)(hi:i<n)(hr:cap<n+1)(hb:base<=w.heap.size)(hM:b_ M w)(hv:w.heap[vb]?=some (.cells (usQ p q A B n1 c1 m1 d1).toArray 48 (0,0)))(qx:QC w (bP (.slice (some ⟨g,0,none⟩) n cap)++M) x p q A n1 c1 B m1 d1):
 ∃G w1 w2 w3,n+1<=G/\(∀ty,(Builtin.append_ #[37,3] ty #[.slice (some ⟨g,0,none⟩) i cap,.int .i64 ((n:Int)+1-(i:Int))]).run prog w=.ok (.slice (some ⟨w,0,none⟩) (n+1) G) w1)/\
  (∀ty,(Builtin.copy_ #[37,37] ty #[.slice (some ⟨w,i*4,none⟩) (n+1-i) (G-i),.slice (some ⟨vb,0,none⟩) 1 1]).run prog w1=.ok (goInt ((1:Nat):Int)) w2)/\
  (∀ty,(Builtin.copy_ #[37,37] ty #[.slice (some ⟨w,(i+1)*4,none⟩) (n-i) (G-(i+1)),.slice (some ⟨g,i*4,none⟩) (n-i) (cap-i)]).run prog w2.drew=.ok (goInt ((n-i:Nat):Int)) w3)/\
  bD fC 48 w3 M base (.slice (some ⟨w,0,none⟩) (n+1) G) (n+1) ((l.take i++x::l.drop i).map jd)/\KpO [] w w3:=by
 obtain⟨cs,O,Q⟩:=h.ex;have f:cs.length=n*4:=O.1;rcases O.2 with⟨e,_⟩|⟨g',al,H,e,am,K,ao,an,aa,F⟩;·cases e
 cases e;have aa:H.size=cap*4:=aa;have F:H.toList.take (n*4)=cs:=F;have ai:=cells_one h.len f Q;have af:∀j u,cs[j]?=some u->w.cell? ⟨g,j,none⟩=some u:=fun j u c=>by have hj:=(bu.1 c).1;rw[<-F,eQ pj,jj]at c;simp[World.cell?,K,c]
 have X:g<w.heap.size:=(cR.1 K).1;have ak:vb<w.heap.size:=(cR.1 hv).1;obtain⟨i0,j1,j2,j3,j4⟩:=lB Xp;obtain⟨G,J⟩:=aC (grownCap w (n+1) cap 48);have V:n+1<=G:=by rw[<-J];exact grownCap_ge w _ _ _
 have ad:G<=maxLen:=by rw[<-J];exact grownCap_le_maxLen w _ _ _ (by unfold maxLen;omega)
 have ah:(Builtin.firstCells i0.size i (.slice (some ⟨g,0,none⟩) i cap)).run prog w.drew=.ok (cs.take (i*4)).toArray w.drew:=by rw[j3];exact run_firstCells_some w.drew 4 i ⟨g,0,none⟩ i cap (cs.take (i*4)) (by rw[cI,f];omega) (fun j u c=>by rw[eT,dC];rw[eQ (by have:=(bu.1 c).1;rw[cI]at this;omega)]at c;exact af j u c)
 have r0:=fun ty=>Lib.run_append_grow_zeros (P:=prog) w 37 3 ty 48 i0 _ .i64 .i64 underlying37 underlying3 j1 j2 (some ⟨g,0,none⟩) i cap (cs.take (i*4)) ah (n+1-i) pj pj pj pj (by rw[j4];omega) (by rw[j4,show i+(n+1-i)=n+1 by omega];exact growslice_fits hr pj);simp only[show i+(n+1-i)=n+1 by omega,J]at r0;obtain⟨R,S⟩:∃R:Array Value,(cs.take (i*4)).toArray++Builtin.zeroCells (Value.agg #[.bool false,.slice none 0 0,.bool false,.slice none 0 0]).cells (n+1-i)++Builtin.zeroCells (Value.agg #[.bool false,.slice none 0 0,.bool false,.slice none 0 0]).cells (G-(n+1))=R:=⟨_,rfl⟩;have D:R.size=G*4:=by rw[<-S];simp[Builtin.zeroCells,Value.cells,f];omega
 have ae:R.toList.take (i*4)=cs.take (i*4):=by rw[<-S,Array.append_assoc,Array.toList_append];exact List.take_left' (by rw[cI,f];omega)
 obtain⟨w1,L⟩:=aC (w.drew.alloc (.cells R 48));have E:Below w w w1:=by rw[<-L];exact pE.drew.alloc pD _
 have Y:w1.heap[w.heap.size]?=some (.cells R 48 (0,0)):=by rw[<-L];exact lz w.drew _
 have aj:w1.heap[vb]?=some (.cells (usQ p q A B n1 c1 m1 d1).toArray 48 (0,0)):=(E.block vb ak).trans hv;have r:=afX (cs:=cs) (row:=R.toList) (us:=usQ p q A B n1 c1 m1 d1) (a:=i*4) (b:=n*4) (s:=4) pj f (by rw[gG,D];omega) ae rfl;rw[show i*4+4=(i+1)*4 by omega,show n*4+4=(n+1)*4 by omega]at r;have W:(cs.drop (i*4)).length=(n-i)*4:=by rw[eJ,f];omega
 obtain⟨d,I⟩:=aC (R.toList.take (i*4)++usQ p q A B n1 c1 m1 d1++R.toList.drop (i*4+(usQ p q A B n1 c1 m1 d1).length));have ab:d.length=G*4:=by rw[<-I];simp only[cJ,cI,eJ,gG,D,usQ,eh,gD];omega
 have r1:∀ty,(Builtin.copy_ #[37,37] ty #[.slice (some ⟨w,i*4,none⟩) (n+1-i) (G-i),.slice (some ⟨vb,0,none⟩) 1 1]).run prog w1=.ok (goInt ((1:Nat):Int)) (w1.setRow w.heap.size d.toArray):=fun ty=>by have h:=aax (P:=prog) w1 37 37 ty 48 w.heap.size (i*4) (n+1-i) (G-i) ⟨vb,0,none⟩ 1 1 4 1 R 48 (usQ p q A B n1 c1 m1 d1) underlying37 abm Y (by simp only[Nat.min_def];split<;>omega) rfl (fun j u c=>by rw[eT,dC];exact acv aj c) (by rw[D];show i*4+4<=_;omega) afk;rw[<-I];exact h
 obtain⟨w2,N⟩:=aC (w1.setRow w.heap.size d.toArray);have Z:w2.heap[w.heap.size]?=some (.cells d.toArray 48 (0,0)):=by rw[<-N];exact setRow_heap w1 w.heap.size R _ _ _ Y
 have k2:KpO [w] w1 w2:=by rw[<-N];exact aa6 _ _ _
 have ag:w2.heap[g]?=some (.cells H 48 (0,0)):=(k2.k.block g (bX X E.size) px).trans ((E.block g X).trans K);obtain⟨o,T⟩:=aC (d.take ((i+1)*4)++cs.drop (i*4)++d.drop ((i+1)*4+(cs.drop (i*4)).length));have r2:∀ty,(Builtin.copy_ #[37,37] ty #[.slice (some ⟨w,(i+1)*4,none⟩) (n-i) (G-(i+1)),.slice (some ⟨g,i*4,none⟩) (n-i) (cap-i)]).run prog w2.drew=.ok (goInt ((n-i:Nat):Int)) (w2.drew.setRow w.heap.size o.toArray):=fun ty=>by have h:=aax (P:=prog) w2.drew 37 37 ty 48 w.heap.size ((i+1)*4) (n-i) (G-(i+1)) ⟨g,i*4,none⟩ (n-i) (cap-i) 4 (n-i) d.toArray 48 (cs.drop (i*4)) underlying37 abm Z (by simp only[Nat.min_def];split<;>omega) W (fun j u c=>by rw[eT];rw[fy]at c;have hj:=(bu.1 c).1;rw[<-F,eQ pj,jj]at c;have ac:w2.drew.heap[g]?=_:=ag;simp[World.cell?,ac,c]) (by rw[lO,ab,W];omega) (fun u c=>ai u (lA c));rw[<-T];exact h
 simp only[I,T]at r;have C:KpO [w] w (w2.drew.setRow w.heap.size o.toArray):=((KpO.of_below E [w.heap.size]).trans k2).trans ((KpO.refl _ w2).drew.trans (aa6 _ _ _));have k0:KpO [] w (w2.drew.setRow w.heap.size o.toArray):=⟨⟨C.k.size,fun k hk _=>C.k.block k hk px⟩,C.os,C.tape,C.output⟩;refine⟨G,w1,w2,_,V,fun ty=>?_,fun ty=>by rw[r1 ty,N],r2,?_,k0⟩;·rw[show(n:Int)+1-(i:Int)=((n+1-i:Nat):Int) by omega,r0 ty,S,L]
 rw[aeo];refine bD.aiG (v:=.slice (some ⟨g,0,none⟩) n cap) h.len (cY hi) f Q (us:=usQ p q A B n1 c1 m1 d1) ?_ (fun y es hy=>?_) ?_;·have e1:(jd x).1.1=p:=qx.num.neg;have e2:(jd x).2.1=q:=qx.den.neg;rw[<-e1,<-e2];exact JB (x:=jd x) qx.num.sl qx.den.sl
 ·exact oY (jf (Rep.more hy (bj w.heap.size)) (C.k.mono fun z m=>by simp at m;subst m;exact cw)) (fun z m=>by
    rcases cK.1 m with m|m;·rw[bJ]at m;cases m;exact cw
    exact bE _ (cP _ m))
 ·refine⟨?_,.inr ⟨w,G,o.toArray,rfl,hb,setRow_heap w2.drew w.heap.size _ _ _ _ Z,V,ad,?_,?_⟩⟩;·show(cs.take (i*4)++usQ p q A B n1 c1 m1 d1++cs.drop (i*4)).length=(n+1)*4;rw[<-r.1,cI,r.2,gG,D];omega
  ·show o.toArray.size=G*4;rw[lO,r.2,gG,D]
  show o.toArray.toList.take ((n+1)*4)=_;rw[List.toList_toArray];exact r.1
theorem adC(h:bD fC 48 w M base (.slice (some ⟨g,0,none⟩) n cap) n (l.map jd))(hn:n<=10000)(hi:i<n)(hr:cap<n+1)(hb:base<=w.heap.size)(hM:b_ M w)(hv:w.heap[vb]?=some (.cells (usQ p q A B n1 c1 m1 d1).toArray 48 (0,0)))(qx:QC w (bP (.slice (some ⟨g,0,none⟩) n cap)++M) x p q A n1 c1 B m1 d1):
 Calls prog 70 #[.slice (some ⟨g,0,none⟩) n cap,.int .i64 i,.slice (some ⟨vb,0,none⟩) 1 1] w (ad4 M base n (.slice (some ⟨g,0,none⟩) n cap) (l.take i++x::l.drop i) w):=by
 refine wid ?_;obtain⟨G,w1,w2,J,N,y,d,T,r,o⟩:=afl h hn hi hr hb hM hv qx;have c:n<=cap:=by
  obtain⟨cs,D,-⟩:=h.ex;rcases D.2 with⟨e,_⟩|⟨L,H,I,e,-,-,c,-,-⟩;·cases e
  cases e;exact c
 have z:=Hd (show ad4 M base n (.slice (some ⟨g,0,none⟩) n cap) (l.take i++x::l.drop i) w (.returned (.slice (some ⟨w,0,none⟩) (n+1) G)) J from⟨_,rfl,r,o.mono pH,.inr ⟨_,rfl,bj _⟩⟩);have E:=fun(w:World)=>aaU (n:=n) (cp:=cap) (k:=i) underlying37 aal g 0 (cY hi) pj w;have Z:=fun(V:World)=>nZ (n:=n) (cp:=cap) (k:=i) underlying37 aal (some ⟨g,0,none⟩) (cY hi) c V;have F:=fun(V:World)=>aaU (n:=n+1) (cp:=G) (k:=i) underlying37 aal w.heap.size 0 pj pj V;have s3:∀V,(Instr.sliceAt 37 (.slice (some ⟨w,0,none⟩) (n+1) G) (some (.int .i64 ((i:Int)+1))) none none).run prog V=.ok (.slice (some ⟨w,(i+1)*4,none⟩) (n-i) (G-(i+1))) V:=fun V=>by have:=aaU (n:=n+1) (cp:=G) (k:=i+1) underlying37 aal w.heap.size 0 pj pj V;rw[dC,show n+1-(i+1)=n-i by omega]at this;exact this
 simp only[dC]at E F;have S:¬((i:Int)=(n:Int)):=pj;have R:((i:Int)==(n:Int))=false:=px;have Q:(cap:Int)<(n:Int)+1:=pj;have W:IntKind.i64.wrap ((i:Int)+1)=(i:Int)+1:=by rw[cA];omega
 have X:IntKind.i64.wrap ((n:Int)+1)=(n:Int)+1:=by rw[cA];omega
 have Y:IntKind.i64.wrap ((n:Int)+1-(i:Int))=(n:Int)+1-(i:Int):=by rw[cA];omega
 have f:=fB y d T;have O:=d 3;clear h hv qx y d T r o hM;refine ent func70 ntmps70 ?_
 gi_wp2_with (first
  |(gi_at_builtin;refine c_ rfl fun K j=>?_;refine IX _ _ _ _ rfl rfl rfl (f.out.1 _) (j _ _ ?_);clear j K)
  |fail)
 refine iF [] 8 1 [0,1,2,3,4,5,6,7] pk pk rfl ?_;refine eH ?_;refine aK ?_;refine jW fun K m C j=>?_;refine acu _ _ _ _ rfl rfl rfl (f.v _) (j _ _ (m _ _ ?_));clear m K j C;refine et _ ?_;gi_wp2;go_ret;exact z.out
end
end
