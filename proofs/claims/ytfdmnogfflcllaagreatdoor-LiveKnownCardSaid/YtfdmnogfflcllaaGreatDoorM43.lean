/- Lemmas. -/
import Derived.Laws.CopyRow
import Derived.Lib.AppendZerosOnto
import Derived.Lib.Overlaps
import Derived.Laws.Externs
import Derived.Test.YtfdmnogfflcllaaGreatDoorM42
set_option linter.unusedVariables false
set_option linter.unusedSimpArgs false
set_option maxRecDepth 100000
set_option maxHeartbeats 20000000
namespace Go.Proofs.YtfdmnogfflcllaaGreatDoor
open Go.Proofs.Tryz Go.RowKit Go.Shelf
variable {P:Program}{e t:TypeId}{w':World}{v' u:Value}{cs us:List Value}{a b s sz cp k g cap:Nat}
theorem aau(w:World)(dT sT ty elem:TypeId)(g o dLen dCap:Nat)(a:Addr)(sLen sCap sz k:Nat)(cur:Array Value)(t:TypeId)(cs:List Value)
 (hu:P.underlying dT=some (.slice elem)) (hs:(P.info? elem).map (·.size)=some sz)
 (hg:w.heap[g]?=some (.cells cur t (0,0))) (hk:Nat.min sLen dLen=k) (hn:cs.length=k*sz)
 (hsrc:∀j v,cs[j]?=some v->w.cell? (a.add j)=some v) (hfit:o+cs.length<=cur.size) (h1:∀v∈cs,v.oneCell'=true):
 (Builtin.copy_ #[dT,sT] ty #[.slice (some ⟨g,o,none⟩) dLen dCap,.slice (some a) sLen sCap]).run P w=.ok (goInt k) (w.setRow g (cur.toList.take o++cs++cur.toList.drop (o+cs.length)).toArray):=by
 have f:=run_loadCells_list (P:=P) w a cs hsrc;have h:=run_storeCells_at P g o t cs 0 cur w hg (by simpa using hfit) h1
 cases c:P.info? elem with
 |none=>simp[c]at hs
 |some i=>
  have d:i.size=sz:=by simpa[c]using hs
  simp[Builtin.copy_,run_underlying hu,Builtin.lenOf,Builtin.firstCells,sizeOf,typeInfo,c,d,hk,<-hn,f,h]
theorem bD.aik{α:Type} [kJ α] {w:World}{M:List Nat}{base n i:Nat}{v:Value}{xs:List α}{x:α}
 (hl:xs.length=n) (hi:i<=n) (hcl:cs.length=n*Rep.sz α) (hcs:∀k y,xs[k]?=some y->∃es,Rep.rd w (bP v++M) y es/\∀j u,es[j]?=some u->cs[k*Rep.sz α+j]?=some u)
 (hx:Rep.rd w (bP v++M) x us) (hk:∀(y:α) es,Rep.rd w (bP v++M) y es->Rep.rd w' (bP v'++M) y es)
 (hr:w'.ownsRow base e (Rep.sz α) v' (n+1) (cs.take (i*Rep.sz α)++us++cs.drop (i*Rep.sz α))):
 bD α e w' M base v' (n+1) (xs.take i++x::xs.drop i):=by
 have z:=nE hx;have C:=dy (Rep.sz α) hi;have h:(cs.take (i*Rep.sz α)).length=i*Rep.sz α:=by rw[cI,hcl];omega
 refine⟨by simp only[cH,et,cI,eC];omega,_,hr,fun k y d=>?_⟩;by_cases m:k<i
 ·rw[di (by rw[cI];omega),eI m]at d;obtain⟨es,a,b⟩:=hcs k y d;refine⟨es,hk y es a,fun j u c=>?_⟩;have o:j<Rep.sz α:=by rw[<-nE a];exact(bj.1 c).1
  have f:=dy (Rep.sz α) (show k+1<=i by omega);rw[fX,fi]at f;rw[d_,di oE,eI oE];exact b j u c
 ·rw[cM (by rw[cI];omega),cI,gd oE]at d;by_cases f:k=i;·subst f;rw[ga,ie]at d;cases d;refine⟨us,hk _ us hx,fun j u c=>?_⟩;have o:=(bj.1 c).1;rw[d_,cM oE,h,di oE,Nat.add_sub_cancel_left];exact c
  rw[show k-i=(k-1-i)+1 by omega,fv,fq]at d;obtain⟨es,a,b⟩:=hcs (i+(k-1-i)) y d;rw[show i+(k-1-i)=k-1 by omega]at b;refine⟨es,hk y es a,fun j u c=>?_⟩;have r:=dy (Rep.sz α) (show i+1<=k by omega);have D:k*Rep.sz α=(k-1)*Rep.sz α+Rep.sz α:=by rw[<-Nat.succ_mul];congr 1;omega
  rw[fX,fi]at r;rw[cM (by rw[cH];omega),cH,h,z,fq,show i*Rep.sz α+(k*Rep.sz α+j-(i*Rep.sz α+Rep.sz α))=(k-1)*Rep.sz α+j by omega];exact b j u c
theorem ag0{cur:List Value}(hab:a<=b)(hb:b+s<=cur.length)(hu:us.length=s):
 let c1:=cur.take (a+s)++(cur.take b).drop a++cur.drop (a+s+((cur.take b).drop a).length);let c2:=c1.take a++us++c1.drop (a+us.length)
 c2.take (b+s)=(cur.take b).take a++us++(cur.take b).drop a/\c2.length=cur.length:=by
 intro c1 c2;have c:((cur.take b).drop a).length=b-a:=by rw[eC,cI];omega
 have d:c1=cur.take (a+s)++((cur.take b).drop a++cur.drop (b+s)):=by show cur.take (a+s)++(cur.take b).drop a++cur.drop (a+s+((cur.take b).drop a).length)=_;rw[c,d_,show a+s+(b-a)=b+s by omega]
 have G:c1.take a=cur.take a:=by rw[d,List.take_append_of_le_length (by rw[cI];omega),List.take_take,gd oE]
 have N:c1.drop (a+us.length)=(cur.take b).drop a++cur.drop (b+s):=by rw[d,hu];exact List.drop_left' (by rw[cI];omega)
 have f:c2=cur.take a++us++((cur.take b).drop a++cur.drop (b+s)):=by show c1.take a++us++c1.drop (a+us.length)=_;rw[G,N]
 have S:(cur.take b).take a=cur.take a:=by rw[List.take_take,gd hab]
 refine⟨?_,?_⟩;·rw[f,<-d_,List.take_append_of_le_length (by simp only[cH,c,hu,cI];omega),bL (by simp only[cH,c,hu,cI];omega),S]
 ·rw[f];simp only[cH,c,hu,cI,eC];omega
theorem afE{row:List Value}(hab:a<=b)(hc:cs.length=b)(hr:b+s<=row.length)(h0:row.take a=cs.take a)(hu:us.length=s):
 let c1:=row.take a++us++row.drop (a+us.length);let c2:=c1.take (a+s)++cs.drop a++c1.drop (a+s+(cs.drop a).length)
 c2.take (b+s)=cs.take a++us++cs.drop a/\c2.length=row.length:=by
 intro c1 c2;have d:(cs.drop a).length=b-a:=by rw[eC];omega
 have c:(cs.take a).length=a:=by rw[cI];omega
 have f:c1=(cs.take a++us)++row.drop (a+s):=by show row.take a++us++row.drop (a+us.length)=_;rw[h0,hu]
 have G:c1.take (a+s)=cs.take a++us:=by rw[f];exact List.take_left' (by rw[cH,c,hu])
 have N:c1.drop (a+s+(cs.drop a).length)=row.drop (b+s):=by rw[f,d,List.drop_append,cA (by rw[cH,c,hu];omega),de,cH,c,hu,List.drop_drop];congr 1;omega
 have h:c2=cs.take a++us++cs.drop a++row.drop (b+s):=by show c1.take (a+s)++cs.drop a++c1.drop (a+s+(cs.drop a).length)=_;rw[G,N]
 refine⟨?_,?_⟩;·rw[h];exact List.take_left' (by simp only[cH,c,hu,d];omega)
 ·rw[h];simp only[cH,c,hu,d,eC];omega
theorem acd{F:Fence}{n:Nat}{Q:Exit->Act->World->Prop}{K:Act->World->Prop}{o:Oper}{a:Act}{w:World}(x y:Operand)(t tn:TypeId){v:Value}
 (ho:o.op=.call { callee:=.builtin .copy,args:=#[x,y],argTypes:=#[t,tn] }) (hx:a.eval x=v) (hy:a.eval y=u)
 (hr:(Builtin.copy_ #[t,tn] o.type #[v,u]).run P w=.ok v' w') (hk:K (a.put o.dst v') w'):o.wpIn F n P a w K Q:=by
 have c:Oper.mild o=true:=by unfold Oper.mild;rw[ho]
 unfold Oper.wpIn;refine⟨jP c w _,?_⟩;rw[sF c];exact GV
theorem aaQ(ht:prog.underlying t=some (.slice e))(hz:∀w,(sizeOf e).run prog w=.ok sz w)(g o:Nat){n:Nat}(hk:k<=n)(hc:cp≠k)(w:World):
 (Instr.sliceAt t (.slice (some ⟨g,o,none⟩) n cp) (some (.int .i64 (k:Int))) none none).run prog w=.ok (.slice (some ⟨g,o+k*sz,none⟩) (n-k) (cp-k)) w:=by
 rw[NJ ht hz (some ⟨g,o,none⟩) hk w,wZ,if_neg hc,fY,eN]
section
attribute [local go_sem] cK
def adL(M:List Nat)(base n:Nat)(v:Value)(l:List Rt)(w:World)(e:Ending)(w':World):Prop:=∃v',e=.returned v'/\bD fC 48 w' M base v' (n+1) (l.map jd)/\KpO (bP v) w w'/\(v'.ownBlock=v.ownBlock\/∃k,v'.ownBlock=some k/\w.heap.size<=k)
theorem aai(w:World):(sizeOf 48).run prog w=.ok 4 w:=oF
theorem ae4{α:Type} [kJ α] {w:World}{M:List Nat}{base n:Nat}{v:Value}{xs:List α}(h:bD α e w M base v n xs):∃A c,v=.slice A n c/\(A=none->n=0):=by
 obtain⟨cs,d,-⟩:=h.ex;rcases d.2 with⟨rfl,rfl⟩|⟨g,cap,f,rfl,-⟩;·exact⟨none,0,rfl,fun _=>rfl⟩
 exact⟨_,cap,rfl,fun h=>(by cases h)⟩
section
variable {M:List Nat}{base n vb i:Nat}{v:Value}{l:List Rt}{x:Rt}{p q:Bool}{A B:Option Addr}{n1 c1 m1 d1:Nat}{w:World}
theorem adM(h:bD fC 48 w M base v n (l.map jd))(hb:base<=w.heap.size)(hn:n<=10000)(hy:Sl fC w (bP v++M) (some ⟨vb,0,none⟩) 1 1 [jd x]):
 Calls prog 70 #[v,.int .i64 n,.slice (some ⟨vb,0,none⟩) 1 1] w (adL M base n v (l++ [x]) w):=by
 refine wid ?_;obtain⟨L,N,o,r,y,z,C⟩:=Iq;have m:(n+1)*L.bytes<=140737488355328:=cD (gp (show n+1<=10001 by omega) C) oR;obtain⟨v',w',D,V,d,E⟩:=h.uy (t:=37) (ty:=37) hb underlying37 o r y z hy m oE;obtain⟨f,c,rfl,H⟩:=ae4 h;have sl:=NJ (n:=n) (cp:=c) (k:=n) underlying37 aai f pc;have G:=Hd D;have F:=Hd (show adL M base n (.slice f n c) (l++ [x]) w (.returned v') w' from⟨v',rfl,by rw[eO];exact V,⟨⟨d.size,fun k I J=>d.block k I (fun e=>J (bJ.2 e.symm))⟩,d.os,d.tape,d.output⟩,by
  rcases E with e|e;·exact .inl e
  exact .inr ⟨_,e,bh _⟩⟩)
 clear h hy m D V d E H o r y z C;refine ent func70 rfl ntmps70 ?_
 gi_wp2_with (first
  |(gi_at_builtin;refine cY rfl fun K j=>?_;refine aI _ _ _ rfl rfl rfl G.out (j _ _ ?_);clear j K)
  |fail)
 go_ret;exact F.out
theorem cells_one{xs:List fC}{N:List Nat}(hl:xs.length=n)(hcl:cs.length=n*4)(h2:∀k y,xs[k]?=some y->∃es,Rep.rd w N y es/\∀j u,es[j]?=some u->cs[k*4+j]?=some u):∀u,u∈cs->u.oneCell'=true:=fun u hu=>by
 obtain⟨j,hj⟩:=fS hu;have hjl:=(bj.1 hj).1;have hk:j/4<xs.length:=oE;obtain⟨es,a,b⟩:=h2 _ _ (bX hk);have hm:j%4<es.length:=by rw[nE a];exact jN _ oR
 have:=b _ _ (bX hm);rw[show j/4*4+j%4=j by omega,hj]at this;cases this;exact kJ.one a _ (gm hm)
theorem ae5(ht:prog.underlying t=some (.slice e))(hz:∀w,(sizeOf e).run prog w=.ok sz w)(A:Option Addr){n:Nat}(hk:k<=cp)(w:World):
 (Instr.sliceAt t (.slice A n cp) none (some (.int .i64 (k:Int))) none).run prog w=.ok (.slice A k cp) w:=by
 have c:prog.elem t=e:=by simp[Program.elem,ht]
 have d:prog.underlying t=some (.slice (prog.elem t)):=by rw[c];exact ht
 rw[run_sliceAt_slice w t _ _ _ _ d,run_slice_h w t A n cp d .i64 (k:Int) oE oE,c,hz];exact Hu
theorem abg:(prog.info? 48).map (·.size)=some 4:=oF
abbrev usQ(p q:Bool)(A B:Option Addr)(n1 c1 m1 d1:Nat):List Value:= [.bool p,.slice A n1 c1,.bool q,.slice B m1 d1]
theorem ad3(l:List Rt)(x:Rt)(i:Nat):(l.take i++x::l.drop i).map jd=(l.map jd).take i++jd x::(l.map jd).drop i:=by rw[eO,fg,List.map_take,List.map_drop]
theorem ae6:∀u,u∈usQ p q A B n1 c1 m1 d1->u.oneCell'=true:=fun u hu=>by simp only[usQ,cB,dz,il]at hu;rcases hu with rfl|rfl|rfl|rfl<;>rfl
theorem aa0(w:World)(g:Nat)(cs:Array Value):KpO [g] w (w.setRow g cs):=⟨⟨by rw[setRow_size];exact bh _,fun k _ hm=>setRow_other w g k cs (fun e=>hm (by simp[e]))⟩,rfl,rfl,rfl⟩
theorem ace{w:World}{j:Nat}(h:w.heap[b]?=some (.cells us.toArray t (0,0)))(hu:us[j]?=some u):w.cell? ⟨b,j,none⟩=some u:=by simp[World.cell?,h,hu]
theorem aek(h:bD fC 48 w M base (.slice (some ⟨g,0,none⟩) n cap) n (l.map jd))(hi:i<n)(hr:n+1<=cap)(hv:w.heap[vb]?=some (.cells (usQ p q A B n1 c1 m1 d1).toArray 48 (0,0)))(hg:vb≠g)(qx:QC w (bP (.slice (some ⟨g,0,none⟩) n cap)++M) x p q A n1 c1 B m1 d1):
 ∃w1 w2,(∀ty,(Builtin.copy_ #[37,37] ty #[.slice (some ⟨g,(i+1)*4,none⟩) (n+1-(i+1)) (cap-(i+1)),.slice (some ⟨g,i*4,none⟩) (n+1-i) (cap-i)]).run prog w.drew=.ok (goInt ((n-i:Nat):Int)) w1)/\
  (∀ty,(Builtin.copy_ #[37,37] ty #[.slice (some ⟨g,i*4,none⟩) (n+1-i) (cap-i),.slice (some ⟨vb,0,none⟩) 1 1]).run prog w1=.ok (goInt 1) w2)/\
  bD fC 48 w2 M base (.slice (some ⟨g,0,none⟩) (n+1) cap) (n+1) ((l.take i++x::l.drop i).map jd)/\KpO [g] w w2/\(∃cur,w.heap[g]?=some (.cells cur 48 (0,0))/\cur.size≠0):=by
 obtain⟨cs,H,I⟩:=h.ex;have F:cs.length=n*4:=H.1;rcases H.2 with⟨e,_⟩|⟨g',aa,cur,e,T,r,ab,V,f,C⟩;·cases e
 cases e;have f:cur.size=cap*4:=f;have C:cur.toList.take (n*4)=cs:=C;have X:=cells_one h.len F I;have U:∀j u,cs[j]?=some u->w.drew.cell? ⟨g,j,none⟩=some u:=fun j u c=>by have hj:=(bj.1 c).1;rw[<-C,eI oE,iS]at c;have W:w.drew.heap[g]?=_:=r;simp[World.cell?,W,c]
 have G:(cs.drop (i*4)).length=(n-i)*4:=by rw[eC,F];omega
 have O:=fun ty=>aau (P:=prog) w.drew 37 37 ty 48 g ((i+1)*4) (n+1-(i+1)) (cap-(i+1)) ⟨g,i*4,none⟩ (n+1-i) (cap-i) 4 (n-i) cur 48 (cs.drop (i*4)) underlying37 abg r (by simp only[Nat.min_def];split<;>omega) G (fun j u c=>by rw[eN];rw[fq]at c;exact U _ u c) (by rw[G,f];omega) (fun u c=>X u (kI c));obtain⟨m,E⟩:=aC (cur.toList.take ((i+1)*4)++cs.drop (i*4)++cur.toList.drop ((i+1)*4+(cs.drop (i*4)).length));rw[E]at O;obtain⟨w1,D⟩:=aC (w.drew.setRow g m.toArray);have K:w1.heap[g]?=some (.cells m.toArray 48 (0,0)):=by rw[<-D];exact setRow_heap w.drew g cur _ _ _ r
 have Y:w1.heap[vb]?=some (.cells (usQ p q A B n1 c1 m1 d1).toArray 48 (0,0)):=by rw[<-D,setRow_other _ _ _ _ hg];exact hv
 have d:=ag0 (cur:=cur.toList) (us:=usQ p q A B n1 c1 m1 d1) (a:=i*4) (b:=n*4) (s:=4) oE (by rw[gj,f];omega) rfl;rw[C,show i*4+4=(i+1)*4 by omega,show n*4+4=(n+1)*4 by omega]at d;simp only[E]at d;have Q:m.length=cap*4:=by rw[<-E];simp only[cH,G,cI,eC,gj,f];omega
 obtain⟨o,J⟩:=aC (m.take (i*4)++usQ p q A B n1 c1 m1 d1++m.drop (i*4+(usQ p q A B n1 c1 m1 d1).length));have r2:∀ty,(Builtin.copy_ #[37,37] ty #[.slice (some ⟨g,i*4,none⟩) (n+1-i) (cap-i),.slice (some ⟨vb,0,none⟩) 1 1]).run prog w1=.ok (goInt (1:Nat)) (w1.setRow g o.toArray):=fun ty=>by have h:=aau (P:=prog) w1 37 37 ty 48 g (i*4) (n+1-i) (cap-i) ⟨vb,0,none⟩ 1 1 4 1 m.toArray 48 (usQ p q A B n1 c1 m1 d1) underlying37 abg K (by simp only[Nat.min_def];split<;>omega) rfl (fun j u c=>by rw[eN,dm];exact ace Y c) (by rw[lf,Q];show i*4+4<=_;omega) ae6;rw[<-J];exact h
 simp only[J]at d;have k1:KpO [g] w w1:=by rw[<-D];exact(KpO.refl [g] w).drew.trans (aa0 _ _ _)
 have N:=k1.trans (aa0 w1 g o.toArray);refine⟨w1,w1.setRow g o.toArray,fun ty=>by rw[O ty,D],r2,?_,N,cur,r,oE⟩;rw[ad3];refine bD.aik (v:=.slice (some ⟨g,0,none⟩) n cap) h.len (cX hi) F I (us:=usQ p q A B n1 c1 m1 d1) ?_ (fun y es Z=>iN Z (N.k.mono fun z L=>by simp at L;subst L;exact df _ (bJ.2 rfl))) ?_;·have R:(jd x).1.1=p:=qx.num.neg;have S:(jd x).2.1=q:=qx.den.neg;rw[<-R,<-S];exact JB (x:=jd x) qx.num.sl qx.den.sl
 ·refine⟨?_,.inr ⟨g,cap,o.toArray,rfl,T,setRow_heap w1 g _ _ _ _ K,hr,V,?_,?_⟩⟩;·show(cs.take (i*4)++usQ p q A B n1 c1 m1 d1++cs.drop (i*4)).length=(n+1)*4;rw[<-d.1,cI,d.2,gj,f];omega
  ·show o.toArray.size=cap*4;rw[lf,d.2,gj,f]
  show o.toArray.toList.take ((n+1)*4)=_;rw[List.toList_toArray];exact d.1
theorem ac3(h:bD fC 48 w M base (.slice (some ⟨g,0,none⟩) n cap) n (l.map jd))(hn:n<=10000)(hi:i<n)(hr:n+1<=cap)(hv:w.heap[vb]?=some (.cells (usQ p q A B n1 c1 m1 d1).toArray 48 (0,0)))(hg:vb≠g)(qx:QC w (bP (.slice (some ⟨g,0,none⟩) n cap)++M) x p q A n1 c1 B m1 d1):
 Calls prog 70 #[.slice (some ⟨g,0,none⟩) n cap,.int .i64 i,.slice (some ⟨vb,0,none⟩) 1 1] w (adL M base n (.slice (some ⟨g,0,none⟩) n cap) (l.take i++x::l.drop i) w):=by
 refine wid ?_;obtain⟨w1,L,f,V,C,y,F,r,c⟩:=aek h hi hr hv hg qx;have S:cap<=9223372036854775807:=by
  obtain⟨cs,G,-⟩:=h.ex;rcases G.2 with⟨e,_⟩|⟨Q,N,O,e,-,-,-,H,-⟩;·cases e
  cases e;simpa[maxLen]using H
 have D:=Hd (show adL M base n (.slice (some ⟨g,0,none⟩) n cap) (l.take i++x::l.drop i) w (.returned (.slice (some ⟨g,0,none⟩) (n+1) cap)) L from⟨_,rfl,C,y.mono (fun z c=>by simp at c;subst c;exact bJ.2 rfl),.inl rfl⟩);have I:=fun(w:World)=>aaQ (n:=n) (cp:=cap) (k:=i) underlying37 aai g 0 (cX hi) oE w;have Z:∀w,(Instr.sliceAt 37 (.slice (some ⟨g,0,none⟩) n cap) none (some (.int .i64 ((n:Int)+1))) none).run prog w=.ok (.slice (some ⟨g,0,none⟩) (n+1) cap) w:=fun w=>ae5 (k:=n+1) underlying37 aai _ hr w;have J:=fun(w:World)=>aaQ (n:=n+1) (cp:=cap) (k:=i) underlying37 aai g 0 oE oE w;have s3:∀w,(Instr.sliceAt 37 (.slice (some ⟨g,0,none⟩) (n+1) cap) (some (.int .i64 ((i:Int)+1))) none none).run prog w=.ok (.slice (some ⟨g,(i+1)*4,none⟩) (n+1-(i+1)) (cap-(i+1))) w:=fun w=>by have:=aaQ (n:=n+1) (cp:=cap) (k:=i+1) underlying37 aai g 0 oE oE w;rw[dm]at this;exact this
 simp only[dm]at I J;have W:∀lb d,(callFunc 123 #[.slice (some ⟨vb,0,none⟩) 1 1,.slice (some ⟨g,(i+1)*4,none⟩) lb d]).run prog w=.ok (.value (.bool false)) w:=fun lb d=>by rw[run_callFunc_extern func123 oF oF oF (e:=Extern.SlicesOverlaps.overlaps #[37,37] #[4]) oF,Lib.run_overlaps_apart w 37 4 48 underlying37 4 aai ⟨vb,0,none⟩ ⟨g,(i+1)*4,none⟩ 1 1 lb d hg 48 48 4 F.size (by simp[World.shape?,hv]) (by simp[World.shape?,r]) c (by simp[World.frozen?,hv]) (by simp[World.frozen?,hv])];rfl
 have U:¬((i:Int)=(n:Int)):=oE;have T:((i:Int)==(n:Int))=false:=oS;rw[show n+1-(i+1)=n-i by omega]at f;have m:=Hd2 f V;have X:IntKind.i64.wrap ((i:Int)+1)=(i:Int)+1:=by rw[bR];omega
 have Y:IntKind.i64.wrap ((n:Int)+1)=(n:Int)+1:=by rw[bR];omega
 clear h hv hg qx f V C y r c;refine ent func70 rfl ntmps70 ?_;gi_wp2_with (first|(refine⟨bq,?_⟩))
 refine iF [] 8 1 [0,1,2,3,4,5,6,7] oF oF rfl ?_;refine eH ?_;refine aK ?_;refine jW fun K j E o=>?_;refine acd _ _ _ _ rfl rfl rfl (m.a _) (o _ _ (j _ _ ?_));clear j K o E;refine dC _ ?_;have R:=m.u 3;gi_wp2;go_ret;exact D.out
theorem ae7(h:bD fC 48 w M base (.slice (some ⟨g,0,none⟩) n cap) n (l.map jd))(hn:n<=10000)(hi:i<n)(hr:cap<n+1)(hb:base<=w.heap.size)(hM:b_ M w)(hv:w.heap[vb]?=some (.cells (usQ p q A B n1 c1 m1 d1).toArray 48 (0,0)))(qx:QC w (bP (.slice (some ⟨g,0,none⟩) n cap)++M) x p q A n1 c1 B m1 d1):
 ∃G w1 w2 w3,n+1<=G/\(∀ty,(Builtin.append_ #[37,3] ty #[.slice (some ⟨g,0,none⟩) i cap,.int .i64 ((n:Int)+1-(i:Int))]).run prog w=.ok (.slice (some ⟨w,0,none⟩) (n+1) G) w1)/\
  (∀ty,(Builtin.copy_ #[37,37] ty #[.slice (some ⟨w,i*4,none⟩) (n+1-i) (G-i),.slice (some ⟨vb,0,none⟩) 1 1]).run prog w1=.ok (goInt ((1:Nat):Int)) w2)/\
  (∀ty,(Builtin.copy_ #[37,37] ty #[.slice (some ⟨w,(i+1)*4,none⟩) (n-i) (G-(i+1)),.slice (some ⟨g,i*4,none⟩) (n-i) (cap-i)]).run prog w2.drew=.ok (goInt ((n-i:Nat):Int)) w3)/\
  bD fC 48 w3 M base (.slice (some ⟨w,0,none⟩) (n+1) G) (n+1) ((l.take i++x::l.drop i).map jd)/\KpO [] w w3:=by
 obtain⟨cs,O,S⟩:=h.ex;have m:cs.length=n*4:=O.1;rcases O.2 with⟨e,_⟩|⟨g',ak,H,e,al,K,an,am,Z,F⟩;·cases e
 cases e;have Z:H.size=cap*4:=Z;have F:H.toList.take (n*4)=cs:=F;have ah:=cells_one h.len m S;have ae:∀j u,cs[j]?=some u->w.cell? ⟨g,j,none⟩=some u:=fun j u c=>by have hj:=(bj.1 c).1;rw[<-F,eI oE,iS]at c;simp[World.cell?,K,c]
 have W:g<w.heap.size:=(cS.1 K).1;have aj:vb<w.heap.size:=(cS.1 hv).1;obtain⟨i0,j1,j2,j3,j4⟩:=kO Xp;obtain⟨G,J⟩:=aC (grownCap w (n+1) cap 48);have U:n+1<=G:=by rw[<-J];exact grownCap_ge w _ _ _
 have ac:G<=maxLen:=by rw[<-J];exact grownCap_le_maxLen w _ _ _ (by unfold maxLen;omega)
 have ag:(Builtin.firstCells i0.size i (.slice (some ⟨g,0,none⟩) i cap)).run prog w.drew=.ok (cs.take (i*4)).toArray w.drew:=by rw[j3];exact run_firstCells_some w.drew 4 i ⟨g,0,none⟩ i cap (cs.take (i*4)) (by rw[cI,m];omega) (fun j u c=>by rw[eN,dm];rw[eI (by have:=(bj.1 c).1;rw[cI]at this;omega)]at c;exact ae j u c)
 have r0:=fun ty=>Lib.run_append_grow_zeros (P:=prog) w 37 3 ty 48 i0 _ .i64 .i64 underlying37 underlying3 j1 j2 (some ⟨g,0,none⟩) i cap (cs.take (i*4)) ag (n+1-i) oE oE oE oE (by rw[j4];omega) (by rw[j4,show i+(n+1-i)=n+1 by omega];exact growslice_fits hr oE);simp only[show i+(n+1-i)=n+1 by omega,J]at r0;obtain⟨R,Q⟩:∃R:Array Value,(cs.take (i*4)).toArray++Builtin.zeroCells (Value.agg #[.bool false,.slice none 0 0,.bool false,.slice none 0 0]).cells (n+1-i)++Builtin.zeroCells (Value.agg #[.bool false,.slice none 0 0,.bool false,.slice none 0 0]).cells (G-(n+1))=R:=⟨_,rfl⟩;have D:R.size=G*4:=by rw[<-Q];simp[Builtin.zeroCells,Value.cells,m];omega
 have ad:R.toList.take (i*4)=cs.take (i*4):=by rw[<-Q,Array.append_assoc,Array.toList_append];exact List.take_left' (by rw[cI,m];omega)
 obtain⟨w1,L⟩:=aC (w.drew.alloc (.cells R 48));have E:Below w w w1:=by rw[<-L];exact pd.drew.alloc pc _
 have X:w1.heap[w.heap.size]?=some (.cells R 48 (0,0)):=by rw[<-L];exact ko w.drew _
 have ai:w1.heap[vb]?=some (.cells (usQ p q A B n1 c1 m1 d1).toArray 48 (0,0)):=(E.block vb aj).trans hv;have r:=afE (cs:=cs) (row:=R.toList) (us:=usQ p q A B n1 c1 m1 d1) (a:=i*4) (b:=n*4) (s:=4) oE m (by rw[gj,D];omega) ad rfl;rw[show i*4+4=(i+1)*4 by omega,show n*4+4=(n+1)*4 by omega]at r;have V:(cs.drop (i*4)).length=(n-i)*4:=by rw[eC,m];omega
 obtain⟨f,I⟩:=aC (R.toList.take (i*4)++usQ p q A B n1 c1 m1 d1++R.toList.drop (i*4+(usQ p q A B n1 c1 m1 d1).length));have aa:f.length=G*4:=by rw[<-I];simp only[cH,cI,eC,gj,D,usQ,et,gh];omega
 have r1:∀ty,(Builtin.copy_ #[37,37] ty #[.slice (some ⟨w,i*4,none⟩) (n+1-i) (G-i),.slice (some ⟨vb,0,none⟩) 1 1]).run prog w1=.ok (goInt ((1:Nat):Int)) (w1.setRow w.heap.size f.toArray):=fun ty=>by have h:=aau (P:=prog) w1 37 37 ty 48 w.heap.size (i*4) (n+1-i) (G-i) ⟨vb,0,none⟩ 1 1 4 1 R 48 (usQ p q A B n1 c1 m1 d1) underlying37 abg X (by simp only[Nat.min_def];split<;>omega) rfl (fun j u c=>by rw[eN,dm];exact ace ai c) (by rw[D];show i*4+4<=_;omega) ae6;rw[<-I];exact h
 obtain⟨w2,N⟩:=aC (w1.setRow w.heap.size f.toArray);have Y:w2.heap[w.heap.size]?=some (.cells f.toArray 48 (0,0)):=by rw[<-N];exact setRow_heap w1 w.heap.size R _ _ _ X
 have k2:KpO [w] w1 w2:=by rw[<-N];exact aa0 _ _ _
 have af:w2.heap[g]?=some (.cells H 48 (0,0)):=(k2.k.block g (cf W E.size) oS).trans ((E.block g W).trans K);obtain⟨o,T⟩:=aC (f.take ((i+1)*4)++cs.drop (i*4)++f.drop ((i+1)*4+(cs.drop (i*4)).length));have r2:∀ty,(Builtin.copy_ #[37,37] ty #[.slice (some ⟨w,(i+1)*4,none⟩) (n-i) (G-(i+1)),.slice (some ⟨g,i*4,none⟩) (n-i) (cap-i)]).run prog w2.drew=.ok (goInt ((n-i:Nat):Int)) (w2.drew.setRow w.heap.size o.toArray):=fun ty=>by have h:=aau (P:=prog) w2.drew 37 37 ty 48 w.heap.size ((i+1)*4) (n-i) (G-(i+1)) ⟨g,i*4,none⟩ (n-i) (cap-i) 4 (n-i) f.toArray 48 (cs.drop (i*4)) underlying37 abg Y (by simp only[Nat.min_def];split<;>omega) V (fun j u c=>by rw[eN];rw[fq]at c;have hj:=(bj.1 c).1;rw[<-F,eI oE,iS]at c;have ab:w2.drew.heap[g]?=_:=af;simp[World.cell?,ab,c]) (by rw[lf,aa,V];omega) (fun u c=>ah u (kI c));rw[<-T];exact h
 simp only[I,T]at r;have C:KpO [w] w (w2.drew.setRow w.heap.size o.toArray):=((KpO.of_below E [w.heap.size]).trans k2).trans ((KpO.refl _ w2).drew.trans (aa0 _ _ _));have k0:KpO [] w (w2.drew.setRow w.heap.size o.toArray):=⟨⟨C.k.size,fun k hk _=>C.k.block k hk oS⟩,C.os,C.tape,C.output⟩;refine⟨G,w1,w2,_,U,fun ty=>?_,fun ty=>by rw[r1 ty,N],r2,?_,k0⟩;·rw[show(n:Int)+1-(i:Int)=((n+1-i:Nat):Int) by omega,r0 ty,Q,L]
 rw[ad3];refine bD.aik (v:=.slice (some ⟨g,0,none⟩) n cap) h.len (cX hi) m S (us:=usQ p q A B n1 c1 m1 d1) ?_ (fun y es hy=>?_) ?_;·have e1:(jd x).1.1=p:=qx.num.neg;have e2:(jd x).2.1=q:=qx.den.neg;rw[<-e1,<-e2];exact JB (x:=jd x) qx.num.sl qx.den.sl
 ·exact od (iN (Rep.more hy (bh w.heap.size)) (C.k.mono fun z d=>by simp at d;subst d;exact cd)) (fun z d=>by
    rcases cR.1 d with d|d;·rw[bJ]at d;cases d;exact cd
    exact bz _ (cL _ d))
 ·refine⟨?_,.inr ⟨w,G,o.toArray,rfl,hb,setRow_heap w2.drew w.heap.size _ _ _ _ Y,U,ac,?_,?_⟩⟩;·show(cs.take (i*4)++usQ p q A B n1 c1 m1 d1++cs.drop (i*4)).length=(n+1)*4;rw[<-r.1,cI,r.2,gj,D];omega
  ·show o.toArray.size=G*4;rw[lf,r.2,gj,D]
  show o.toArray.toList.take ((n+1)*4)=_;rw[List.toList_toArray];exact r.1
theorem ado(h:bD fC 48 w M base (.slice (some ⟨g,0,none⟩) n cap) n (l.map jd))(hn:n<=10000)(hi:i<n)(hr:cap<n+1)(hb:base<=w.heap.size)(hM:b_ M w)(hv:w.heap[vb]?=some (.cells (usQ p q A B n1 c1 m1 d1).toArray 48 (0,0)))(qx:QC w (bP (.slice (some ⟨g,0,none⟩) n cap)++M) x p q A n1 c1 B m1 d1):
 Calls prog 70 #[.slice (some ⟨g,0,none⟩) n cap,.int .i64 i,.slice (some ⟨vb,0,none⟩) 1 1] w (adL M base n (.slice (some ⟨g,0,none⟩) n cap) (l.take i++x::l.drop i) w):=by
 refine wid ?_;obtain⟨G,w1,w2,J,O,y,f,z,r,o⟩:=ae7 h hn hi hr hb hM hv qx;have d:n<=cap:=by
  obtain⟨cs,E,-⟩:=h.ex;rcases E.2 with⟨e,_⟩|⟨N,I,L,e,-,-,d,-,-⟩;·cases e
  cases e;exact d
 have C:=Hd (show adL M base n (.slice (some ⟨g,0,none⟩) n cap) (l.take i++x::l.drop i) w (.returned (.slice (some ⟨w,0,none⟩) (n+1) G)) J from⟨_,rfl,r,o.mono pf,.inr ⟨_,rfl,bh _⟩⟩);have F:=fun(w:World)=>aaQ (n:=n) (cp:=cap) (k:=i) underlying37 aai g 0 (cX hi) oE w;have Y:=fun(V:World)=>nZ (n:=n) (cp:=cap) (k:=i) underlying37 aai (some ⟨g,0,none⟩) (cX hi) d V;have H:=fun(V:World)=>aaQ (n:=n+1) (cp:=G) (k:=i) underlying37 aai w.heap.size 0 oE oE V;have Z:∀V,(Instr.sliceAt 37 (.slice (some ⟨w,0,none⟩) (n+1) G) (some (.int .i64 ((i:Int)+1))) none none).run prog V=.ok (.slice (some ⟨w,(i+1)*4,none⟩) (n-i) (G-(i+1))) V:=fun V=>by have:=aaQ (n:=n+1) (cp:=G) (k:=i+1) underlying37 aai w.heap.size 0 oE oE V;rw[dm,show n+1-(i+1)=n-i by omega]at this;exact this
 simp only[dm]at F H;have T:¬((i:Int)=(n:Int)):=oE;have S:((i:Int)==(n:Int))=false:=oS;have R:(cap:Int)<(n:Int)+1:=oE;have U:IntKind.i64.wrap ((i:Int)+1)=(i:Int)+1:=by rw[bR];omega
 have W:IntKind.i64.wrap ((n:Int)+1)=(n:Int)+1:=by rw[bR];omega
 have X:IntKind.i64.wrap ((n:Int)+1-(i:Int))=(n:Int)+1-(i:Int):=by rw[bR];omega
 have m:=fB y f z;have Q:=f 3;clear h hv qx y f z r o hM;refine ent func70 rfl ntmps70 ?_
 gi_wp2_with (first
  |(gi_at_builtin;refine cY rfl fun K c=>?_;refine IX _ _ _ _ rfl rfl rfl (m.a _) (c _ _ ?_);clear c K)
  |fail)
 refine iF [] 8 1 [0,1,2,3,4,5,6,7] oF oF rfl ?_;refine eH ?_;refine aK ?_;refine jW fun K j D c=>?_;refine acd _ _ _ _ rfl rfl rfl (m.v _) (c _ _ (j _ _ ?_));clear j K c D;refine dC _ ?_;gi_wp2;go_ret;exact C.out
end
end
