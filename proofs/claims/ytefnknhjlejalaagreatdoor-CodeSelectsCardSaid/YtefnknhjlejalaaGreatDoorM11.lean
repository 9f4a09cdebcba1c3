/- Lemmas and walks; no statement is proved here. -/
import Derived.Lib.ItoaNum
import Derived.Test.YtefnknhjlejalaaGreatDoorM08
import Derived.Test.YtefnknhjlejalaaGreatDoorM09
import Derived.Test.YtefnknhjlejalaaGreatDoorM10
set_option linter.unusedVariables false
set_option linter.unusedSimpArgs false
set_option maxRecDepth 20000
set_option maxHeartbeats 6000000
namespace Go.Proofs.YtefnknhjlejalaaGreatDoor
open Go.Proofs.Tryz Go.RowKit Go.Shelf
theorem afq{p:Prop}(h:p:=by gi_wp2;exact⟨⟨i,_,_,_,_,by omega,rfl,Wu.out.1,Wu.out.2⟩,by simp[intOf]⟩):p:=h
theorem acU{p:Prop}(h:p:=by
 gi_wp2;refine ak [] (List.range 38) (by kernel_rfl) (by kernel_rfl) ?_;simp only[show List.range 38= [0,1,2,3,4,5,6,7,8,9,10,11,12,13,14,15,16,17,18,19,20,21,22,23,24,25,26,27,28,29,30,31,32,33,34,35,36,37]from rfl];refine eH ?_;refine aK ?_;refine lit ?_;gi_wp2;have LS1:=Hd hS2.out.drew;obtain⟨F,hF⟩:=aC ((List.range k).map (fun j=>(aB ws j:Int)-(gg:Int)*(aB (bC (y*2^s)) j:Int)));have hFl:F.length=k:=by rw[<-hF];simp
 have HF:=Hd hF;clear hF q1 s1 s2 s3 f1 f2 f3 f4 hS2;gi_loopw[13,121] (fun o v wr=>∃(m:Nat) (ms:List Nat) (oo:Int),m<=k/\o=.int .i64 oo/\v=.int .i64 m/\ -8589934592<=oo/\oo<=8589934592/\Hid (rY F m ms oo)/\Hid (LS w W4 wr g W3.heap.size cc n (RR lo' (ms++ws.drop m) (t:Int) rest) Q)) (fun _ v _=>k-(intOf v).toNat);case atStart=>exact⟨0, [],0,Nat.zero_le _,rfl,rfl,by omega,by omega,rY.start F,LS1.out⟩
 case round=>
  obtain⟨m,ms,oo,hm,rfl,rfl,ho1,ho2,hC,hS3⟩:=hrel;by_cases hlt:m<k
  ·obtain⟨wm,hwm⟩:=dW ws m (by rw[W.out.2.2.2.2.1];exact hlt);have OZ:=g_ (W.out.2.2.2.2.2.1 wm (List.mem_of_getElem? hwm));obtain⟨bv,ov,vm,Tf,hvm,O1,EM,Ec⟩:=(V.out.1.keep hS3.out.kp).mG (aO _) hlt;cases Tf;rw[Nat.zero_add]at hvm;have hmid:(ms++ws.drop m)[m]?=some wm:=by
    rw[List.getElem?_append_right (by rw[hC.out.2.1];exact Nat.le_refl _),hC.out.2.1,Nat.sub_self,List.getElem?_drop,Nat.add_zero];exact hwm
   have O6:wr.cell? ⟨g,i+m,none⟩=some (.int .i64 (wm:Int)):=hS3.out.u.cell (wE W.out.2.2.1 hmid);have hFx:F[m]?=some ((wm:Int)-(gg:Int)*(vm:Int)):=by rw[<-HF.out,List.getElem?_map,List.getElem?_range hlt];simp only[Option.map_some,Ec];rw[show aB ws m=wm by simp[aB,List.getD,hwm]]
   obtain⟨f1,f2,f3,f4,f5⟩:=Ea hgB OZ O1 ho1 ho2;have hst:=hC.out.step hFx;have hset:(ms++ws.drop m).set m (((wm:Int)-(gg:Int)*(vm:Int)+oo)% (BB:Int)).toNat=(ms++ [(((wm:Int)-(gg:Int)*(vm:Int)+oo)% (BB:Int)).toNat])++ws.drop (m+1):=set_mid hC.out.2.1 (by rw[W.out.2.2.2.2.1];exact hlt) _;have hput:=hS3.out.drew.FB (by omega) hwg (i+m) ((((wm:Int)-(gg:Int)*(vm:Int)+oo)% (BB:Int)).toNat:Int);rw[rH W.out.2.2.1 (by rw[List.length_append,hC.out.2.1,List.length_drop,W.out.2.2.2.2.1];omega),hset,Int.toNat_of_nonneg (Int.emod_nonneg _ (by decide))]at hput;have HST:=Hd2 hst hput;have s1:=ah O6;have s2:=ah hvm;have y1:wr.drew.cell? ⟨g,i+m,none⟩=some (.int .i64 (wm:Int)):=O6;have y2:wr.drew.frozen? ⟨g,i+m,none⟩=false:=hS3.out.u.free _;have g1:IntKind.i64.wrap ((i:Int)+(m:Int))=(i:Int)+(m:Int):=by rw[IntKind.wrap_i64];omega
   have g2:(0:Int)<=(i:Int)+(m:Int):=by omega
   have g3:(i:Int)+(m:Int)<(n:Int)+1:=by omega
   have g4:((i:Int)+(m:Int)).toNat=i+m:=by omega
   have k20:=qL ((wm:Int)-(gg:Int)*(vm:Int)+oo);have Ws:=Hd2 f4 f5;clear hst hset hput hwm EM Ec hmid O6 hFx hvm f4 f5;gi_wp2;refine ak [] (List.range 16) (by kernel_rfl) (by kernel_rfl) ?_;simp only[show List.range 16= [0,1,2,3,4,5,6,7,8,9,10,11,12,13,14,15]from rfl];refine eH ?_;refine aK ?_;refine lit ?_;gi_wp2;exact⟨⟨m+1,_,_,by omega,rfl,by go_num,Ws.out.1,Ws.out.2,HST.out.1,HST.out.2⟩,by simp[intOf];omega⟩
  ·have hmk:k=m:=by omega
   subst hmk;have hcf:aY F 0=(ms,oo):=by have h:=hC.out.1;rw[List.drop_of_length_le (by omega)]at h;simpa[aY]using h
   have hml:=hC.out.2.1;have Ti:=hC.out.2.2;have hS4:=hS3.out;rw[List.drop_of_length_le (by rw[W.out.2.2.2.2.1];exact Nat.le_refl _),List.append_nil]at hS4;have hF':(List.range (bC (y*2^s)).length).map (fun j=>(aB ws j:Int)-(gg:Int)*(aB (bC (y*2^s)) j:Int))=F:=by rw[P.out.2.2.1];exact HF.out
   have hct:wr.cell? ⟨g,i+k,none⟩=some (.int .i64 (t:Int)):=hS4.u.cell (yt W.out.2.2.1 hml);have hft:wr.frozen? ⟨g,i+k,none⟩=false:=hS4.u.free _;have hilt:i<n-k+1:=by have:=hI.out.jl;omega
   have hwv:val (dd::rs)=val (ws++ [t]):=by rw[W.out.2.2.2.1]
   have hvv:val (bC (y*2^s))=y*2^s:=bI _;obtain⟨EL,hoq⟩:=dW Q i (by rw[hI.out.ql];exact hilt);have g2:(0:Int)<=(i:Int)+(k:Int):=by omega
   by_cases hneg:(t:Int)+oo<0
   ·obtain⟨d0,d1,d2,d3⟩:=D6 (us:=ws++ [t]) (vs:=bC (y*2^s)) (ws:=ws) (t:=t) (g:=gg) rfl (by rw[W.out.2.2.2.2.1,P.out.2.2.1]) (aO _) HN.out (m:=ms) (o:=oo) (by rw[hF'];exact hcf) hneg;rw[P.out.2.2.1]at d2 d3;obtain⟨F2,hF2⟩:=aC ((List.range k).map (fun j=>(aB ms j:Int)+(aB (bC (y*2^s)) j:Int)));rw[hF2]at d2 d3;have abS:F2.length=k:=by rw[<-hF2];simp
    have k30:IntKind.i64.wrap ((t:Int)+oo)=(t:Int)+oo:=by rw[IntKind.wrap_i64];omega
    have k31:IntKind.i64.wrap ((gg:Int)-1)=((gg-1:Nat):Int):=by rw[IntKind.wrap_i64];omega
    have hput:=hS4.FB (by omega) hwg (i+k) ((t:Int)+oo);rw[lJ W.out.2.2.1 hml]at hput;have D:=Hd (And.intro d0 (And.intro d1 (And.intro d2 (And.intro d3 (And.intro hF2 (And.intro hml (And.intro Ti (And.intro hwv (And.intro hvv (And.intro hoq (And.intro hput hft)))))))))));have q3:decide ((t:Int)+oo<0)=true:=decide_eq_true hneg;clear hput d0 d1 d2 d3 hF2 hml Ti hwv hvv hcf hF' hC hS3 hS4 hoq;gi_wp2;gi_loopw[16,169] (fun o v wr=>∃(m:Nat) (ms2:List Nat) (o2:Int),m<=k/\o=.int .i64 o2/\v=.int .i64 m/\ -8589934592<=o2/\o2<=8589934592/\Hid (rY F2 m ms2 o2)/\Hid (LS w W4 wr g W3.heap.size cc n (RR lo' (ms2++ms.drop m) ((t:Int)+oo) rest) Q)) (fun _ v _=>k-(intOf v).toNat);case atStart=>exact⟨0, [],0,Nat.zero_le _,rfl,rfl,by omega,by omega,rY.start F2,D.out.2.2.2.2.2.2.2.2.2.2.1⟩
    case round=>
     obtain⟨m,ms2,o2,hm2,rfl,rfl,ho3,ho4,hC2,hS5⟩:=hrel;by_cases hlt2:m<k
     ·obtain⟨wm,hwm⟩:=dW ms m (by rw[D.out.2.2.2.2.2.1];exact hlt2);have OZ:=g_ (D.out.2.2.2.2.2.2.1 wm (List.mem_of_getElem? hwm));obtain⟨bv,ov,vm,Tf,hvm,O1,EM,Ec⟩:=(V.out.1.keep hS5.out.kp).mG (aO _) hlt2;cases Tf;rw[Nat.zero_add]at hvm;have hmid:(ms2++ms.drop m)[m]?=some wm:=by
       rw[List.getElem?_append_right (by rw[hC2.out.2.1];exact Nat.le_refl _),hC2.out.2.1,Nat.sub_self,List.getElem?_drop,Nat.add_zero];exact hwm
      have O6:wr.cell? ⟨g,i+m,none⟩=some (.int .i64 (wm:Int)):=hS5.out.u.cell (wE W.out.2.2.1 hmid);have hFx:F2[m]?=some ((wm:Int)+(vm:Int)):=by rw[<-D.out.2.2.2.2.1,List.getElem?_map,List.getElem?_range hlt2];simp only[Option.map_some,Ec];rw[show aB ms m=wm by simp[aB,List.getD,hwm]]
      obtain⟨f1,f2,f4,f5⟩:=Eb OZ O1 ho3 ho4;have hst:=hC2.out.step hFx;have hset:(ms2++ms.drop m).set m (((wm:Int)+(vm:Int)+o2)% (BB:Int)).toNat=(ms2++ [(((wm:Int)+(vm:Int)+o2)% (BB:Int)).toNat])++ms.drop (m+1):=set_mid hC2.out.2.1 (by rw[D.out.2.2.2.2.2.1];exact hlt2) _;have hput:=hS5.out.drew.FB (by omega) hwg (i+m) ((((wm:Int)+(vm:Int)+o2)% (BB:Int)).toNat:Int);rw[rH W.out.2.2.1 (by rw[List.length_append,hC2.out.2.1,List.length_drop,D.out.2.2.2.2.2.1];omega),hset,Int.toNat_of_nonneg (Int.emod_nonneg _ (by decide))]at hput;have HST:=Hd2 hst hput;have s1:=ah O6;have s2:=ah hvm;have y1:wr.drew.cell? ⟨g,i+m,none⟩=some (.int .i64 (wm:Int)):=O6;have y2:wr.drew.frozen? ⟨g,i+m,none⟩=false:=hS5.out.u.free _;have g1:IntKind.i64.wrap ((i:Int)+(m:Int))=(i:Int)+(m:Int):=by rw[IntKind.wrap_i64];omega
      have g2':(0:Int)<=(i:Int)+(m:Int):=by omega
      have g3:(i:Int)+(m:Int)<(n:Int)+1:=by omega
      have g4:((i:Int)+(m:Int)).toNat=i+m:=by omega
      have k20:=qL ((wm:Int)+(vm:Int)+o2);have Ws:=Hd2 f4 f5;clear hst hset hput hwm EM Ec hmid O6 hFx hvm f4 f5;gi_wp2;refine ak [] (List.range 14) (by kernel_rfl) (by kernel_rfl) ?_;simp only[show List.range 14= [0,1,2,3,4,5,6,7,8,9,10,11,12,13]from rfl];refine eH ?_;refine aK ?_;refine lit ?_;gi_wp2;exact⟨⟨m+1,_,_,by omega,rfl,by go_num,Ws.out.1,Ws.out.2,HST.out.1,HST.out.2⟩,by simp[intOf];omega⟩
     ·have hmk:k=m:=by omega
      subst hmk;have hcf:aY F2 0=(ms2,o2):=by have h:=hC2.out.1;rw[List.drop_of_length_le (by omega)]at h;simpa[aY]using h
      have hS6:=hS5.out;rw[List.drop_of_length_le (by rw[D.out.2.2.2.2.2.1];exact Nat.le_refl _),List.append_nil]at hS6;obtain⟨d0,d1,d2,d3,hF2,hml,Ti,hwv,hvv,hoq,-,-⟩:=D.out;rw[hcf]at d2 d3;rw[hvv,<-hwv]at d1 d2;simp only at d2 d3;have abT:wr.cell? ⟨g,i+k,none⟩=some (.int .i64 ((t:Int)+oo)):=hS6.u.cell (yt W.out.2.2.1 hC2.out.2.1);have abU:wr.frozen? ⟨g,i+k,none⟩=false:=hS6.u.free _;have k32:IntKind.i64.wrap ((t:Int)+oo+o2)=0:=by rw[d3];rfl
      have hput:=hS6.FB (by omega) hwg (i+k) 0;rw[lJ W.out.2.2.1 hC2.out.2.1,BK]at hput;have z1:(wr.setCell ⟨g,i+k,none⟩ (.int .i64 0)).cell? ⟨W3.heap.size,i,none⟩=some (.int .i64 (EL:Int)):=hput.q.cell (jK hoq);have z2:(wr.setCell ⟨g,i+k,none⟩ (.int .i64 0)).frozen? ⟨W3.heap.size,i,none⟩=false:=hput.q.free _;have tJ:=hput.YG hgq hwq i (gg-1);obtain⟨hstep,-⟩:=hI.out.step W.out.2.1 W.out.2.2.1 d2 hC2.out.2.1 hC2.out.2.2 V.out.2 W.out.2.2.2.2.2.2.2.1;rw[<-d1]at hstep;have Wu:=Hd2 hstep tJ;clear hstep hput tJ hcf hS6 d0 d1 d2 d3 hF2 hml Ti hwv hvv hoq hC2 hS5 D;exact afq
   obtain⟨d1,d2,d3⟩:=zW (us:=ws++ [t]) (vs:=bC (y*2^s)) (ws:=ws) (t:=t) (g:=gg) rfl (by rw[W.out.2.2.2.2.1,P.out.2.2.1]) (aO _) (by rw[bI];exact V.out.2) hG.out.1 (by rw[hF',hcf];exact Int.not_lt.1 hneg);rw[hF',hcf]at d2 d3;rw[hvv,<-hwv]at d1 d2;simp only at d2 d3;have k30:IntKind.i64.wrap ((t:Int)+oo)=0:=by rw[d3];rfl
   have hput:=hS4.FB (by omega) hwg (i+k) 0;rw[lJ W.out.2.2.1 hml,BK]at hput;have z1:(wr.setCell ⟨g,i+k,none⟩ (.int .i64 0)).cell? ⟨W3.heap.size,i,none⟩=some (.int .i64 (EL:Int)):=hput.q.cell (jK hoq);have z2:(wr.setCell ⟨g,i+k,none⟩ (.int .i64 0)).frozen? ⟨W3.heap.size,i,none⟩=false:=hput.q.free _;have tJ:=hput.YG hgq hwq i gg;obtain⟨hstep,-⟩:=hI.out.step W.out.2.1 W.out.2.2.1 d2 hml Ti V.out.2 W.out.2.2.2.2.2.2.2.1;rw[<-d1]at hstep;have Wu:=Hd2 hstep tJ;clear hstep hput tJ hcf hF' hS4 d1 d2 d3 hml Ti hwv hvv hoq hneg hC hS3;exact afq):p:=h
variable {x b n m base d y s X qb cc:Nat}{M Q:List Nat}{v:Value}{xs T:List Int}{W W4:World}{o:Int}
section
attribute [local go_sem] Oper.semAt_some
def Rw(w:World)(g N cap:Nat)(l:List Int):Prop:=w.ownsRow 0 3 1 (.slice (some ⟨g,0,none⟩) N cap) N (l.map (Value.int .i64))
section
variable {w w':World}{g N cap:Nat}{l:List Int}
theorem Rw.len(h:Rw w g N cap l):l.length=N:=by simpa using h.1
theorem Rw.lt(h:Rw w g N cap l):g<w.heap.size:=(World.ownsRow.lt h g rfl).2
theorem Rw.cell(h:Rw w g N cap l){k:Nat}{x:Int}(hk:l[k]?=some x):w.cell? ⟨g,k,none⟩=some (.int .i64 x):=by
 have hl:k<N:=by rw[<-h.len];exact(List.getElem?_eq_some_iff.1 hk).1
 rw[World.ownsRow.cellAt h k (by omega),List.getElem?_map,hk];rfl
theorem Rw.free(h:Rw w g N cap l)(k:Nat):w.frozen? ⟨g,k,none⟩=false:=World.ownsRow.frozenAt h k
theorem Rw.put(h:Rw w g N cap l)(k:Nat)(x:Int):Rw (w.setCell ⟨g,k,none⟩ (.int .i64 x)) g N cap (l.set k x):=by unfold Rw;rw[List.map_set];exact(World.ownsRow.stored h k _).1
theorem Rw.drew(h:Rw w g N cap l):Rw w.drew g N cap l:=h
theorem Rw.uw(h:Rw w g N cap l)(hb:g≠b)(k:Nat)(u:Value):Rw (w.setCell ⟨b,k,none⟩ u) g N cap l:=qp h (fun q hq _=>by have e:g=q:=Option.some.inj hq;subst e;exact Below.heap_setCell w _ _ g hb)
theorem Rw.go(h:Rw w g N cap l)(hb:Below w.heap.size w w'):Rw w' g N cap l:=qp h (fun q _ hl=>hb.block q hl)
theorem Rw.sl(h:Rw w g N cap l)(hM:g∉M)(hs:N<=1000000)(hi:∀x,x∈l->i64 x):Sl Int w M (some ⟨g,0,none⟩) N cap l:=by
 rcases h.2 with⟨e,_⟩|⟨g',cap',cur,e,-,-,hnc,hcm,-,-⟩;·cases e
 cases e;refine⟨h.len,hnc,by simpa[jG,maxLen]using hcm,by omega,.inr ⟨g,0,rfl,fun k x hk=>⟨_,⟨rfl,hi x (List.mem_of_getElem? hk)⟩,hM,fun j u hu=>?_⟩⟩⟩
 match j,hu with
 |0,hu=>cases hu;simpa[show Rep.sz Int=1 from rfl]using h.cell hk
theorem Rw.cut(h:w.ownsRow base 3 1 v n (xs.map (Value.int .i64)))(hv:v=.slice (some ⟨g,0,none⟩) n cap)(hm:m<=n):Rw w g m cap (xs.take m):=by
 rcases h.2 with⟨e,_⟩|⟨g',cap',cur,e,hb,hh,hnc,hcm,hsz,htk⟩;·rw[e]at hv;cases hv
 rw[e]at hv;cases hv;refine⟨?_,.inr ⟨g,cap,cur,rfl,Nat.zero_le _,hh,by omega,hcm,hsz,?_⟩⟩;·rw[List.length_map,List.length_take];have:=h.1;rw[List.length_map]at this;omega
 rw[List.map_take,<-htk,List.take_take,Nat.mul_one,Nat.mul_one,Nat.min_eq_left hm]
end
theorem Wj(h0:0<d)(h1:d<=1073741823):∃s:Nat,s<=29/\(64-(Lib.bitLen d:Int))-34=(s:Int)/\(d+1)*2^s<=BB/\1<=Lib.bitLen d/\Lib.bitLen d<=30:=by
 have hb:=Lib.bitLenAux_bounds 64 d (by omega) (by omega);have hle:=Lib.bitLen_le d 30 (by omega) (by omega);have e:Lib.bitLen d=Lib.bitLenAux 64 d:=rfl;rw[e]at hle |-;generalize Lib.bitLenAux 64 d=L at*
 refine⟨30-L,by omega,by omega,?_,hb.1,hle⟩;have h2:(d+1)*2^(30-L)<=2^L*2^(30-L):=Nat.mul_le_mul_right _ hb.2.2;rw[<-Nat.pow_add,show L+(30-L)=30 by omega]at h2;exact h2
theorem Tc{k:Nat}(hk:(bC y).length=k)(hk0:0<k)(hd:(bC y)[k-1]?=some d)(hs:(d+1)*2^s<=BB):(bC (y*2^s)).length=k:=by
 have h1:(bC (y*2^s)).length<=k:=by
  rw[<-lY];have e:=l7 hd;rw[show k-1+1=k by omega,List.take_of_length_le (by omega),bI]at e;have h2:=jh _ (lD (aO y) (k-1));rw[List.length_take,Nat.min_eq_left (by omega)]at h2;have h3:y<BB^(k-1)*(d+1):=by rw[Nat.mul_add,Nat.mul_one];omega
  have h4:y*2^s<BB^(k-1)*(d+1)*2^s:=Nat.mul_lt_mul_of_pos_right h3 (Nat.pow_pos (by decide));have h5:BB^(k-1)*((d+1)*2^s)<=BB^(k-1)*BB:=Nat.mul_le_mul_left _ hs;rw[<-Nat.pow_succ,show(k-1).succ=k by omega,<-Nat.mul_assoc]at h5;omega
 have h2:(bC y).length<=(bC (y*2^s)).length:=kR (Nat.le_mul_of_pos_right _ (Nat.pow_pos (by decide)));omega
theorem OW(hn:(bC x).length=n)(hs:s<=29):n<=(bC (x*2^s)).length/\(bC (x*2^s)).length<=n+1:=by
 constructor;·rw[<-hn];exact kR (Nat.le_mul_of_pos_right _ (Nat.pow_pos (by decide)))
 rw[<-lY,Nat.pow_succ];have h1:x<BB^n:=(lY x n).2 (by omega);exact Nat.mul_lt_mul_of_lt_of_le h1 (OU hs) eX
theorem Wn(h:W.ownsRow base 3 1 v n (xs.map (Value.int .i64)))(hb:base<=W.heap.size)(hn:n<=1000000000):
 ∃g cc W',(Builtin.append_ #[125,125] 125 #[v,.slice (some ⟨W.heap.size,0,none⟩) 2 2]).run prog (W.alloc (.cells #[.int .i64 0,.int .i64 0] 3))=.ok (.slice (some ⟨g,0,none⟩) (n+2) cc) W'/\W'.ownsRow base 3 1 (.slice (some ⟨g,0,none⟩) (n+2) cc) (n+2) ((xs++ [0,0]).map (Value.int .i64))/\Below base W W'/\(∀b,b<W.heap.size->v.ownBlock≠some b->W'.heap[b]?=W.heap[b]?)/\(v.ownBlock=some g\/W.heap.size<g)/\n+2<=cc:=by
 obtain⟨i0,hi,hz0,hz1,hz2⟩:=info_parts qo;obtain⟨v',w',h1,h2,h3,_,h5⟩:=run_append_own_at (P:=prog) (W.alloc (.cells #[.int .i64 0,.int .i64 0] 3)) base 125 125 3 i0 (.int .i64 0) 1 8 underlying125 hi hz0 hz1 hz2 rfl (by decide) v n _ (h.alloc _) ⟨W.heap.size,0,none⟩ 2 2 [.int .i64 0,.int .i64 0] rfl (by intro j u hu;match j,hu with|0,hu=>(cases hu;simp[go_sem,Addr.add])|1,hu=>(cases hu;simp[go_sem,Addr.add])) (by simp[Value.oneCell']) (by unfold maxLen;omega) (by omega) (by simp;omega);obtain⟨g,cc,rfl⟩:=ownsRow_succ (k:=n+1) h2;have h2':w'.ownsRow base 3 1 (.slice (some ⟨g,0,none⟩) (n+2) cc) (n+2) ((xs++ [0,0]).map (Value.int .i64)):=by rw[List.map_append];exact h2
 refine⟨g,cc,w',h1,h2',((Below.refl base W).alloc hb _).grown h3 (by simp;omega) (fun k hk=>(h.lt k hk).1),fun b hb' hne=>?_,?_,?_⟩;·exact(h3.block b (by simp;omega) (fun e=>hne e.symm)).trans (Below.heap_alloc W _ b hb')
 ·rcases h5 with e|e;·left;rw[<-e];rfl
  right;have e2:g=(W.alloc (.cells #[.int .i64 0,.int .i64 0] 3)).heap.size:=Option.some.inj e;rw[e2];simp
 ·rcases h2.2 with⟨e,_⟩|⟨g',cap',cur,e,-,-,hnc,-⟩;·cases e
  cases e;exact hnc
theorem aaO:BB=1073741824:=rfl
theorem OX{t u1 v1:Nat}(ht:t<=1073741823)(hu:u1<=1073741823):∃hd dq g0:Nat,(hd=t*BB+u1/\dq=hd/v1/\g0=min (hd/v1) (BB-1))/\bits .or .i64 ((t:Int)*1073741824) (u1:Int)=(hd:Int)/\hd<=1152921504606846975/\
 min (dq:Int) 1073741823=(g0:Int)/\IntKind.i64.wrap (dq:Int)=(dq:Int)/\((hd:Int)).tdiv (v1:Int)=(dq:Int)/\IntKind.i64.wrap ((t:Int)*1073741824)=(t:Int)*1073741824:=by
 refine⟨t*1073741824+u1,(t*1073741824+u1)/v1,min ((t*1073741824+u1)/v1) 1073741823,⟨rfl,rfl,rfl⟩,?_,by omega,?_,?_,(Int.ofNat_tdiv _ _).symm,?_⟩;·rw[Jv ht hu];omega
 ·omega
 ·have h:=Nat.div_le_self (t*1073741824+u1) v1;have h2:t*1073741824+u1<=1152921504606846975:=by omega
  generalize (t*1073741824+u1)/v1=q at*;generalize t*1073741824+u1=r at*;rw[IntKind.wrap_i64];omega
 ·rw[IntKind.wrap_i64];omega
theorem OY{hd g v1 v2 u2:Nat}(hh:hd<=1152921504606846975)(hg:g<=1073741823)(h1:v1<=1073741823)(h2:v2<=1073741823)(hu:u2<=1073741823)(hle:g*v1<=hd):∃(X:Nat) (Y:Int),X=hd-g*v1/\IntKind.i64.wrap ((hd:Int)-(g:Int)*(v1:Int))=(X:Int)/\
 IntKind.i64.wrap ((g:Int)*(v1:Int))=(g:Int)*(v1:Int)/\IntKind.i64.wrap ((g:Int)*(v2:Int))=(g:Int)*(v2:Int)/\bits .or .i64 (IntKind.i64.wrap ((X:Int)*1073741824)) (u2:Int)=Y/\(X<=1073741823->Y=((X*BB+u2:Nat):Int)):=by
 have a1:g*v1<=1073741823*1073741823:=Nat.mul_le_mul hg h1;have a2:g*v2<=1073741823*1073741823:=Nat.mul_le_mul hg h2;have e1:(g:Int)*(v1:Int)=((g*v1:Nat):Int):=(Int.natCast_mul ..).symm;have e2:(g:Int)*(v2:Int)=((g*v2:Nat):Int):=(Int.natCast_mul ..).symm;rw[e1,e2];generalize g*v1=p at*
 generalize g*v2=q at*
 refine⟨hd-p,_,rfl,?_,?_,?_,rfl,fun hX=>?_⟩;·rw[IntKind.wrap_i64];omega
 ·rw[IntKind.wrap_i64];omega
 ·rw[IntKind.wrap_i64];omega
 ·generalize hd-p=X at*
  have hw:IntKind.i64.wrap ((X:Int)*1073741824)=(X:Int)*1073741824:=by rw[IntKind.wrap_i64];omega
  rw[hw,Jv hX hu,aaO];omega
structure GS(us vs:List Nat)(k t u1 u2 v1 v2:Nat):Prop where
 gu:Good us
 gv:Good vs
 a2:us[k-2]?=some u2
 a1:us[k-1]?=some u1
 a0:us[k]?=some t
 lu:us.length=k+1
 b2:vs[k-2]?=some v2
 b1:vs[k-1]?=some v1
 lv:vs.length=k
 pv:0<v1
 V0:0<val vs
 lt:val us<BB*val vs
 k2:2<=k
section
variable {us vs:List Nat}{k t u1 u2 v1 v2:Nat}
theorem GS.start(h:GS us vs k t u1 u2 v1 v2):lZ us vs (min ((t*BB+u1)/v1) (BB-1))/\min ((t*BB+u1)/v1) (BB-1)*v1<=t*BB+u1:=by have hk:=h.k2;refine⟨Ls (j:=k-2) h.gu h.gv (by rw[show k-2+1=k-1 by omega];exact h.a1) (by rw[show k-2+2=k by omega];exact h.a0) (by rw[h.lu];omega) (by rw[show k-2+1=k-1 by omega];exact h.b1) (by rw[h.lv];omega) h.pv h.lt,?_⟩;exact Nat.le_trans (Nat.mul_le_mul_right _ (Nat.min_le_left _ _)) (Nat.div_mul_le_self _ _)
theorem GS.less(h:GS us vs k t u1 u2 v1 v2){g:Nat}(hg:lZ us vs g)(hle:g*v1<=t*BB+u1)(hX:X=t*BB+u1-g*v1)(ht:X*BB+u2<g*v2):1<=g/\lZ us vs (g-1)/\(g-1)*v1<=t*BB+u1:=by
 have hk:=h.k2;subst hX;have h1:=(D5 (v2:=v2) (u2:=u2) hle).1 ht;refine⟨?_,OI (j:=k-2) h.gu h.gv h.a2 (by rw[show k-2+1=k-1 by omega];exact h.a1) (by rw[show k-2+2=k by omega];exact h.a0) (by rw[h.lu];omega) h.b2 (by rw[show k-2+1=k-1 by omega];exact h.b1) (by rw[h.lv];omega) h.V0 hg h1,?_⟩
 ·rcases Nat.eq_zero_or_pos g with e|e;·subst e;simp at ht
  exact e
 exact Nat.le_trans (Nat.mul_le_mul_right _ (Nat.sub_le _ _)) hle
theorem GS.done(h:GS us vs k t u1 u2 v1 v2){g:Nat}(hg:lZ us vs g)(hle:g*v1<=t*BB+u1)(hX:X=t*BB+u1-g*v1)(ht:BB-1<X\/g*v2<=X*BB+u2):g*val vs<=val us+val vs:=by
 have hk:=h.k2;subst hX;refine OJ (j:=k-2) h.gu h.gv h.a2 (by rw[show k-2+1=k-1 by omega];exact h.a1) (by rw[show k-2+2=k by omega];exact h.a0) (by rw[h.lu];omega) h.b2 (by rw[show k-2+1=k-1 by omega];exact h.b1) (by rw[h.lv];omega) h.pv hg ?_;rcases ht with ht|ht;·exact SN hg.small (h.gv v2 (List.mem_of_getElem? h.b2)) hle ht
 exact Nat.not_lt.1 (fun e=>absurd ((D5 (v2:=v2) (u2:=u2) hle).2 e) (Nat.not_lt.2 ht))
end
theorem Ea{g w v:Nat}(hg:g<=1073741823)(hw:w<=1073741823)(hv:v<=1073741823)(h1: -8589934592<=o)(h2:o<=8589934592):IntKind.i64.wrap ((g:Int)*(v:Int))=(g:Int)*(v:Int)/\IntKind.i64.wrap ((w:Int)-(g:Int)*(v:Int))=(w:Int)-(g:Int)*(v:Int)/\
 IntKind.i64.wrap ((w:Int)-(g:Int)*(v:Int)+o)=(w:Int)-(g:Int)*(v:Int)+o/\ -8589934592<=((w:Int)-(g:Int)*(v:Int)+o)/1073741824/\((w:Int)-(g:Int)*(v:Int)+o)/1073741824<=8589934592:=by
 have a1:g*v<=1073741823*1073741823:=Nat.mul_le_mul hg hv;have e1:(g:Int)*(v:Int)=((g*v:Nat):Int):=(Int.natCast_mul ..).symm;rw[e1];generalize g*v=p at*
 refine⟨?_,?_,?_,by omega,by omega⟩;·rw[IntKind.wrap_i64];omega
 ·rw[IntKind.wrap_i64];omega
 ·rw[IntKind.wrap_i64];omega
theorem Eb{w v:Nat}(hw:w<=1073741823)(hv:v<=1073741823)(h1: -8589934592<=o)(h2:o<=8589934592):IntKind.i64.wrap ((w:Int)+(v:Int))=(w:Int)+(v:Int)/\IntKind.i64.wrap ((w:Int)+(v:Int)+o)=(w:Int)+(v:Int)+o/\
 -8589934592<=((w:Int)+(v:Int)+o)/1073741824/\((w:Int)+(v:Int)+o)/1073741824<=8589934592:=by
 refine⟨?_,?_,by omega,by omega⟩;·rw[IntKind.wrap_i64];omega
 ·rw[IntKind.wrap_i64];omega
theorem set_mid{ms ws:List Nat}(hm:ms.length=m)(hw:m<ws.length)(d:Nat):(ms++ws.drop m).set m d=(ms++ [d])++ws.drop (m+1):=by subst hm;rw[List.set_append_right _ _ (Nat.le_refl _),Nat.sub_self,List.drop_eq_getElem_cons hw,List.set_cons_zero];simp
theorem Row.own{w:World}{k:Nat}{l:List Int}(h:Row w b l)(hb:base<=b)(hk:k<=n)(hl:l.length=n)(hn:n<=1000000):w.ownsRow base 3 1 (.slice (some ⟨b,0,none⟩) k n) k ((l.take k).map (Value.int .i64)):=by refine⟨by simp[hl];omega,.inr ⟨b,n,_,rfl,hb,h,hk,by simp[maxLen];omega,by simp[hl],?_⟩⟩;rw[List.map_take,Nat.mul_one]
structure LS(w W4 W:World)(g qb cc n:Nat)(T:List Int)(Q:List Nat):Prop where
 u:Rw W g (n+1) cc T
 q:Row W qb (ints Q)
 kp:Keeps [g,qb] W4 W
 bl:Below w.heap.size w W
theorem LS.drew{w W4 W:World}{g qb cc n:Nat}{T:List Int}{Q:List Nat}(h:LS w W4 W g qb cc n T Q):LS w W4 W.drew g qb cc n T Q:=⟨h.u,h.q,h.kp.drew,h.bl.drew⟩
theorem LS.FB{w:World}{g:Nat}(h:LS w W4 W g qb cc n T Q)(hne:qb≠g)(hg:w.heap.size<=g)(j:Nat)(x:Int):LS w W4 (W.setCell ⟨g,j,none⟩ (.int .i64 x)) g qb cc n (T.set j x) Q:=⟨h.u.put j x,h.q.uw hne j _,h.kp.setCell (p:=⟨g,j,none⟩) (.inl (by simp)) _,h.bl.setCell (p:=⟨g,j,none⟩) hg _⟩
theorem LS.YG{w:World}{g:Nat}(h:LS w W4 W g qb cc n T Q)(hne:g≠qb)(hg:w.heap.size<=qb)(j:Nat)(x:Nat):LS w W4 (W.setCell ⟨qb,j,none⟩ (.int .i64 (x:Int))) g qb cc n T (Q.set j x):=⟨h.u.uw hne j _,by have:=h.q.put j (x:Int);rwa [ints_set]at this,h.kp.setCell (p:=⟨qb,j,none⟩) (.inl (by simp)) _,h.bl.setCell (p:=⟨qb,j,none⟩) hg _⟩
set_option maxRecDepth 100000 in
set_option maxHeartbeats 8000000 in
theorem Wp{A B:Option Addr}{c k:Nat}{w:World}(hM:b_ M w)(hx:Sl Int w M A n c (ints (bC x)))(hy:Sl Int w M B k d (ints (bC y)))(hn:n<=4990)(hk2:2<=k)(hkn:k<=n):
 Calls prog 114 #[.slice A n c,.slice B k d] w fun e w'=>∃O q cO O2 q2 Z7,e=.returned (.tuple #[.slice O q cO,.slice O2 q2 Z7])/\Sl Int w' M O q cO (ints (bC (x/y)))/\Sl Int w' M O2 q2 Z7 (ints (bC (x%y)))/\Below w.heap.size w w':=by
 refine wid ?_;have H:=Hd (hx.less (M':= []) (by simp));have G:=Hd (hy.less (M':= []) (by simp));have HM:=Hd hM;have l1:=hx.eu;have l2:=hy.eu;have hsb:=hy.small;obtain⟨b0,o0,dt,rfl,hct,hdt,hdl,-⟩:=hy.mG (aO y) (show k-1<k by omega);have ht0:0<dt:=by have h:=iQ y;rw[mF,List.getLast?_eq_getElem?,l2,hdl]at h;simp at h;omega
 obtain⟨s,YH,hse,hsB,hL1,hL2⟩:=Wj ht0 hdt;have lv:=Tc l2 (by omega) hdl hsB;obtain⟨lu1,lu2⟩:=OW (s:=s) l1 YH;have ek:((k:Int)-1)=((k-1:Nat):Int):=by omega
 have kw:IntKind.i64.wrap ((k:Int)-1)=((k-1:Nat):Int):=by rw[IntKind.wrap_i64];omega
 have kd:IntKind.u64.wrap (dt:Int)=(dt:Int):=by simp[IntKind.wrap,IntKind.bits,IntKind.signed];omega
 have P:=Iw l1 l2 lv lu1 lu2 hse hsB;clear hx hy hM l1 l2 lv lu1 lu2 hdl hse hsB;refine ent func114 rfl ntmps114 ?_
 gi_wp2_with (first
  |(refine Cl 161 (wG (dt:Int) _ (by omega) (by omega)) ?_;rintro e w ⟨rfl,rfl⟩;rw[Int.toNat_natCast])
  |(refine⟨trivial,?_⟩;gi_at_call 162;have g:=HV.out;clear g;refine Cn (Ic (A:=A) (c:=c) (x:=x) (H.out.keep (Keeps.of_below HV.out.2.2.2.2.2.2 [])) (by omega) YH) ?_;rintro e w2 ⟨ub,ku,LU,rfl,ur,Td,uk,ul,ug,ut,uB⟩;have HU:=Iw ur Td uk ul ug ut uB;have hown:=ur.own (base:=w1.heap.size) Td uk (by rw[jm];exact ul) (by omega);rw[eG,ut]at hown;obtain⟨g,cc,W3,a1,a2,a3,a4,a5,a6⟩:=Wn hown uB.size (by omega);have JR:=Hd a1;have HA:=Hd5 a2 a3 a4 a5 a6;have hku:ku=(bC (x*2^s)).length:=by rw[<-ut,List.length_take];omega
    have acj:n<=ku:=by rw[hku];exact P.out.2.2.2.1
    have acn:ku<=n+1:=uk;have sl1:=nZ (k:=n+1) underlying125 (sz:=1) (fun w=>by kernel_rfl) (some ⟨g,0,none⟩) (n:=ku+2) (cp:=cc) (by omega) a6;rw[show((n+1:Nat):Int)=(n:Int)+1 from by omega]at sl1;have hmk:=qR (t:=125) underlying125 (n-k+1) (by omega);obtain⟨W4,I4⟩:=aC (W3.alloc (.cells ((List.replicate (n-k+1) (0:Int)).map (Value.int .i64)).toArray 3));replace hmk:=hmk W3;rw[I4,show((n-k+1:Nat):Int)=(n:Int)-(k:Int)+1 from by omega]at hmk;have H4:=Hd I4;clear ur Td uk ul ug ut uB hown a1 a2 a3 a4 a5 hku I4)
  |(refine⟨trivial,?_⟩;gi_at_call 162;rw[P.out.2.2.2.2.2.1];refine Cn (Ic (A:=some ⟨b0,o0,none⟩) (c:=d) (x:=y) G.out (by omega) YH) ?_;rintro e w1 ⟨vb,kk,LV,rfl,vr,vb1,vk,vl,vg,vt,vB⟩;have hkk:k=kk:=by
     have h:=congrArg List.length vt;rw[List.length_take,P.out.2.2.1]at h;omega
    subst hkk;have HV:=Iw vr vb1 vk vl vg vt vB;clear vr vb1 vk vl vg vt vB)
  |(gi_at_builtin;refine wpListIn_plain rfl fun K hK'=>?_;refine aI _ _ _ rfl rfl rfl JR.out (hK' _ _ ?_);clear hK' K)
  |fail)
 have hU:=HU.out;have hV:=HV.out;obtain⟨a2,a3,a4,a5⟩:=HA.out;have hvb:vb<w1.heap.size:=hV.1.lt;have hws:w.heap.size<=w1.heap.size:=hV.2.2.2.2.2.2.size;have hub:w1.heap.size<=ub:=hU.2.1;have aco:w1.heap.size<=w2.heap.size:=hU.2.2.2.2.2.2.size;have hgb:w1.heap.size<=g:=by
  rcases a5 with e|e;·have:ub=g:=Option.some.inj e;omega
  omega
 have hg3:g<W3.heap.size:=(World.ownsRow.lt a2 g rfl).2;have hw3:=a3.size;have bW4:Below w1.heap.size w1 W4:=(hU.2.2.2.2.2.2.trans (a3.mono (by omega) )).trans (by rw[<-H4.out];exact(Below.refl _ _).alloc (by omega) _);have bw4:Below w.heap.size w W4:=hV.2.2.2.2.2.2.trans (bW4.mono hws);obtain⟨T,hT⟩:∃T,T=(bC (x*2^s)++ [0,0]).take (n+1):=⟨_,rfl⟩;have hkl:(bC (x*2^s)).length=ku:=by rw[<-hU.2.2.2.2.2.1,List.length_take,hU.2.2.2.1];omega
 have hTl:T.length=n+1:=by rw[hT,List.length_take,List.length_append,hkl];simp;omega
 have hgd:Good (bC (x*2^s)++ [0,0]):=fun q hq=>by
  rcases List.mem_append.1 hq with hq|hq;·exact aO _ q hq
  simp at hq;rw[hq];exact eX
 have hTg:Good T:=by rw[hT];exact lD hgd _
 have hTv:val (T.take (n+1))=x*2^s:=by
  rw[List.take_of_length_le (by omega),hT];have e:=lX (bC (x*2^s)++ [0,0]) (n+1) (by rw[List.length_append,hkl];simp;omega);rw[val_append,bI]at e;have z1:val [0,0]=0:=rfl;have z2:val ((bC (x*2^s)++ [0,0]).drop (n+1))=0:=by
   rw[List.drop_append,List.drop_of_length_le (by omega),List.nil_append,hkl];rcases(show n+1-ku=0\/n+1-ku=1 by omega)with e|e;·rw[e];rfl
   rw[e];rfl
  rw[z1,z2]at e;omega
 have hru:Rw W4 g (n+1) cc (ints T):=by have h:=Rw.cut (g:=g) a2 rfl (m:=n+1) (by omega);rw[show ints (bC (x*2^s))++ [0,0]=ints (bC (x*2^s)++ [0,0]) by simp[ints],eG,<-hT]at h;exact h.go (by rw[<-H4.out];exact(Below.refl _ _).alloc (Nat.le_refl _) _)
 have hrq:Row W4 W3.heap.size (ints (List.replicate (n-k+1) 0)):=by rw[<-H4.out,<-lH];exact Row.new _ W3
 have hvs:Sl Int W4 [g,W3.heap.size] (some ⟨vb,0,none⟩) k (k+1) (ints (bC (y*2^s))):=by
  have h:=(hV.1.go bW4 hvb).sl (M:= [g,W3.heap.size]) (by simp;omega) (n:=k+1) (by rw[jm];exact hV.2.2.2.1) (by omega) (fU hV.2.2.2.2.1);have h2:=h.nY (k:=k) (by omega)
  rwa [eG,hV.2.2.2.2.2.1]at h2
 have hli:=LI.start (s:=s) (T:=T) P.out.1 P.out.2.1 hkn (by omega) hTv hTg (by omega);have hY0:0<y*2^s:=by
  rcases Nat.eq_zero_or_pos (y*2^s)with e|e;·have:=P.out.2.2.1;rw[e,bU]at this;simp at this;omega
  exact e
 have V:=Hd2 hvs hY0;have hwg:w.heap.size<=g:=by omega
 have hwq:w.heap.size<=W3.heap.size:=by omega
 have hgq:g≠W3.heap.size:=by omega
 have hsh:T=T.take (n-k+1)++((T.drop (n-k+1)).take k++T.drop (n+1)):=by
  have e1:T.take (n+1)=T.take (n-k+1)++(T.drop (n-k+1)).take k:=by
   conv=>lhs;rw[show n+1=(n-k+1)+k by omega]
   rw[List.take_add]
  rw[<-List.append_assoc,<-e1,List.take_append_drop]
 rw[hsh]at hru;have S0:=Hd2 hli (LS.mk hru hrq (Keeps.refl _ _) bw4);clear hru hrq hvs hli hY0 hTv hTg hgd hTl hkl hT hsh bw4 a2 a3 a4 a5 hU hV HU HV HA H4 JR sl1 hmk hub hvb bW4 hct hL1 hL2 ht0 hdt kd;gi_wp2;gi_loopw[10] (fun v wr=>∃(j:Nat) (lo rs rest Q:List Nat),j<=n-k+1/\v=.int .i64 ((j:Int)-1)/\Hid (LI (x*2^s) (y*2^s) (n+1) k (n-k+1) j lo rs rest Q)/\Hid (LS w W4 wr g W3.heap.size cc n (ints (lo++(rs++rest))) Q)) (fun v _=>(intOf v+1).toNat);case atStart=>exact⟨n-k+1,_,_,_,_,Nat.le_refl _,by go_num,S0.out.1,S0.out.2⟩
 case round=>
  obtain⟨j,lo,rs,rest,Q,hj,rfl,hI,hS⟩:=hrel;rcases Nat.eq_zero_or_pos j with rfl|hpos
  ·obtain⟨hq1,hr1,hr2⟩:val Q=x/y/\val rs=(x%y)*2^s/\val ((rs++rest).take (n+1))=(x%y)*2^s:=by
     have h:=hI.out;have h0:lo= []:=List.length_eq_zero_iff.1 h.lol;subst h0;exact h.done (by omega)
   have h0:lo= []:=List.length_eq_zero_iff.1 hI.out.lol;subst h0;have hS1:=hS.out;rw[List.nil_append]at hS1;have hTl:(rs++rest).length=n+1:=by have:=hS1.u.len;rwa [jm]at this
   rw[List.take_of_length_le (by rw[hTl];exact Nat.le_refl _)]at hr2;have hTg:Good (rs++rest):=fun q hq=>by
    rcases List.mem_append.1 hq with hq|hq;·exact hI.out.grs q hq
    exact hI.out.gz q hq
   have hgM:g∉M:=fun e=>by have:=HM.out _ e;omega
   have hqM:W3.heap.size∉M:=fun e=>by have:=HM.out _ e;omega
   have su:Sl Int wr.drew M (some ⟨g,0,none⟩) (n+1) cc (ints (rs++rest)):=hS1.drew.u.sl hgM (by omega) (fU hTg);have hgQ:=hI.out.gq;have hlQ:=hI.out.ql;have hp:0<2^s:=Nat.pow_pos (by decide);have hp2:2^s<=1073741824:=OU YH;have kk1:IntKind.i64.wrap (2^s)=((2^s:Nat):Int):=by
    have e:(2:Int)^s=((2^s:Nat):Int):=by simp
    rw[e,IntKind.wrap_i64];omega
   have hbel:b_ M wr.drew:=HM.out.le hS1.bl.size;have E:=Hd (And.intro su (And.intro hTg (And.intro hr2 (And.intro hgQ (And.intro hlQ (And.intro hq1 (And.intro hS1.drew hbel)))))));clear hq1 hr1 hr2 hS1 hTl hTg hgM su hgQ hlQ hI hS hbel;gi_wp2;refine ak [] [0,2,3,1,4,5,6,7,8] (by kernel_rfl) (by kernel_rfl) ?_;refine eH ?_;refine aH fun K hK=>aA rfl rfl wy fun K' hK'=>?_;gi_wp2;refine Cm (jw _ _ _ (rs++rest) wr.drew E.out.1 E.out.2.1) ?_;rintro e w5 ⟨q,rfl,hq,ht,hb5⟩;have hs5:=(E.out.1.keep (Keeps.of_below hb5 M)).nY hq;rw[eG,ht,E.out.2.2.1]at hs5;have H5:=Hd2 hs5 hb5;clear hs5 ht;refine hK' _ _ ⟨?_,hK _ _ ?_⟩;clear hK' K' hK K;·exact Keeps.of_below hb5 []
   refine lit ?_;refine eH ?_;refine aH fun K hK=>aA rfl rfl wy fun K' hK'=>?_;gi_wp2;refine Cm (short_any (x:=(x%y)*2^s) (d:=2^s) (E.out.2.2.2.2.2.2.2.le hb5.size) H5.out.1 (by omega) hp hp2) ?_;rintro e w6 ⟨O2,q2,c2,rfl,hs6,hb6⟩;rw[Nat.mul_div_cancel _ hp]at hs6;have H6:=Hd2 hs6 (hb5.trans (hb6.mono hb5.size));clear hs6;refine hK' _ _ ⟨?_,hK _ _ ?_⟩;clear hK' K' hK K;·exact Keeps.of_below hb6 []
   refine lit ?_;refine eH ?_;refine aK ?_;refine lit ?_;have hb:=H6.out.2;have sq:Sl Int w6 M (some ⟨W3.heap.size,0,none⟩) (n-k+1) (n-k+1) (ints Q):=(E.out.2.2.2.2.2.2.1.q.go hb E.out.2.2.2.2.2.2.1.q.lt).sl hqM (by rw[jm];exact E.out.2.2.2.2.1) (by omega) (fU E.out.2.2.2.1);have SQ:=Hd sq;clear sq hb hb5 hb6;gi_wp2_with (refine Cl 113 (jw _ _ _ Q _ SQ.out E.out.2.2.2.1) ?_;rintro e w7 ⟨q3,rfl,hq3,ht3,hb7⟩;have H7:=fB hq3 ht3 hb7;clear hq3 ht3 hb7)
   have hs7:=(SQ.out.keep (Keeps.of_below H7.out.2.2 M)).nY H7.out.1;rw[eG,H7.out.2.1,E.out.2.2.2.2.2.1]at hs7;go_ret2;exact⟨_,q3,_,O2,q2,c2,rfl,hs7,H6.out.1.keep (Keeps.of_below H7.out.2.2 M),E.out.2.2.2.2.2.2.1.bl.trans ((H6.out.2.trans (H7.out.2.2.mono H6.out.2.size)).mono E.out.2.2.2.2.2.2.1.bl.size)⟩
  ·obtain⟨i,rfl⟩:∃i,j=i+1:=⟨j-1,by omega⟩;have ei:((i+1:Nat):Int)-1=(i:Int):=by omega
   rw[ei];obtain⟨lo',dd,ws,t,hlo,hlo1,hdr,hwl,Wq,htB,hlg,hdB⟩:=hI.out.window;have hS1:=hS.out;rw[LI.shape (rest:=rest) hlo hdr,<-Wi]at hS1;obtain⟨u1,hu1⟩:=dW ws (k-1) (by omega);obtain⟨u2,hu2⟩:=dW ws (k-2) (by omega);have abK:=g_ (Wq u1 (List.mem_of_getElem? hu1));have abL:=g_ (Wq u2 (List.mem_of_getElem? hu2));have abM:=g_ htB;obtain⟨bv,ov,v1,Tf,hv1,abN,YI,-⟩:=(V.out.1.keep hS1.kp).mG (aO _) (show k-1<k by omega);obtain⟨bv',ov',v2,abO,hv2,abP,Zb,-⟩:=(V.out.1.keep hS1.kp).mG (aO _) (show k-2<k by omega);cases Tf;cases abO;rw[Nat.zero_add]at hv1 hv2;have abQ:0<v1:=by have h:=iQ (y*2^s);rw[mF,List.getLast?_eq_getElem?,P.out.2.2.1,YI]at h;simp at h;omega
   have hc0:wr.cell? ⟨g,i+k,none⟩=some (.int .i64 (t:Int)):=hS1.u.cell (yt hlo1 hwl);have hc1:wr.cell? ⟨g,i+(k-1),none⟩=some (.int .i64 (u1:Int)):=hS1.u.cell (wE hlo1 hu1);have hc2:wr.cell? ⟨g,i+(k-2),none⟩=some (.int .i64 (u2:Int)):=hS1.u.cell (wE hlo1 hu2);have hin:i+k<n+1:=by have:=hI.out.jl;omega
   have hgs:GS (ws++ [t]) (bC (y*2^s)) k t u1 u2 v1 v2:=by
    refine⟨?_,aO _,?_,?_,?_,by simp[hwl],Zb,YI,P.out.2.2.1,abQ,by rw[bI];exact V.out.2,?_,hk2⟩;·exact zu Wq htB
    ·rw[List.getElem?_append_left (by omega)];exact hu2
    ·rw[List.getElem?_append_left (by omega)];exact hu1
    ·rw[List.getElem?_append_right (by omega),hwl,Nat.sub_self];rfl
    rw[<-hdr,bI];exact hI.out.less hdB
   have W:=Hd (And.intro hS1 (And.intro hlo (And.intro hlo1 (And.intro hdr (And.intro hwl (And.intro Wq (And.intro hlg (And.intro hdB (And.intro hu1 (And.intro hu2 (And.intro YI Zb)))))))))));clear hlo hlo1 hdr hwl Wq hlg hdB hu1 hu2 YI Zb htB ei hS hj;have s0:=ah hc0;have s1:=ah hc1;have k1:IntKind.i64.wrap ((i:Int)+(k:Int))=(i:Int)+(k:Int):=by rw[IntKind.wrap_i64];omega
   have k2:IntKind.i64.wrap ((i:Int)+(k:Int)-1)=(i:Int)+((k-1:Nat):Int):=by rw[IntKind.wrap_i64];omega
   obtain⟨hd,dq,g0,hhd,k4,hdB,k5,k6,k7,k3⟩:=OX (v1:=v1) abM abK;have k8:¬v1=0:=by omega
   have abR:wr.drew.cell? ⟨vb,k-1,none⟩=some (.int .i64 (v1:Int)):=hv1;have HH:=Hd hhd;clear hhd;have j1:(0:Int)<=(i:Int)+(k:Int):=by omega
   have j2:(i:Int)+(k:Int)<(n:Int)+1:=by omega
   have j3:((i:Int)+(k:Int)).toNat=i+k:=by omega
   have j4:(0:Int)<=(i:Int)+((k-1:Nat):Int):=by omega
   have j5:(i:Int)+((k-1:Nat):Int)<(n:Int)+1:=by omega
   have j6:((i:Int)+((k-1:Nat):Int)).toNat=i+(k-1):=by omega
   gi_wp2;refine ak [] (List.range 16) (by kernel_rfl) (by kernel_rfl) ?_;simp only[show List.range 16= [0,1,2,3,4,5,6,7,8,9,10,11,12,13,14,15]from rfl];refine eH ?_;refine aK ?_;refine lit ?_;gi_wp2;have GSH:=Hd hgs;have LS0:=Hd hS1.drew;clear hgs hc0 hc1 hc2 hv1 hv2 abR s0 s1 k4 k5 k6 k7 k3 hS1;gi_loopw[12] (fun v wr=>∃gg:Nat,v=.int .i64 gg/\gg<=1073741823/\Hid (lZ (ws++ [t]) (bC (y*2^s)) gg/\gg*v1<=hd)/\Hid (LS w W4 wr g W3.heap.size cc n (RR lo' ws (t:Int) rest) Q)) (fun v _=>(intOf v).toNat);case atStart=>exact⟨g0,rfl,by rw[HH.out.2.2];exact Nat.min_le_right _ _,by rw[HH.out.2.2,HH.out.1];exact GSH.out.start,LS0.out⟩
   case round=>
    obtain⟨gg,rfl,hgB,hG,hS2⟩:=hrel;obtain⟨X,Y,hX,f1,f2,f3,f4,f5⟩:=OY hdB hgB abN abP abL hG.out.2;have hc0:wr.cell? ⟨g,i+k,none⟩=some (.int .i64 (t:Int)):=hS2.out.u.cell (yt W.out.2.2.1 W.out.2.2.2.2.1);have hc2:wr.cell? ⟨g,i+(k-2),none⟩=some (.int .i64 (u2:Int)):=hS2.out.u.cell (wE W.out.2.2.1 W.out.2.2.2.2.2.2.2.2.2.1);have kv:=V.out.1.keep hS2.out.kp;have hv1:wr.cell? ⟨vb,k-1,none⟩=some (.int .i64 (v1:Int)):=by
     obtain⟨bv,ov,q,Tf,h1,-,h2,-⟩:=kv.mG (aO _) (show k-1<k by omega);cases Tf;rw[W.out.2.2.2.2.2.2.2.2.2.2.1]at h2;cases h2
     rwa [Nat.zero_add]at h1
    have hv2:wr.cell? ⟨vb,k-2,none⟩=some (.int .i64 (v2:Int)):=by
     obtain⟨bv,ov,q,Tf,h1,-,h2,-⟩:=kv.mG (aO _) (show k-2<k by omega);cases Tf;rw[W.out.2.2.2.2.2.2.2.2.2.2.2]at h2;cases h2
     rwa [Nat.zero_add]at h1
    have s1:=ah hv1;have s2:=ah hv2;have s3:=ah hc2;have kw2:IntKind.i64.wrap ((k:Int)-2)=((k-2:Nat):Int):=by rw[IntKind.wrap_i64];omega
    have k9:IntKind.i64.wrap ((i:Int)+(k:Int)-2)=(i:Int)+((k-2:Nat):Int):=by rw[IntKind.wrap_i64];omega
    have j7:(0:Int)<=(i:Int)+((k-2:Nat):Int):=by omega
    have j8:(i:Int)+((k-2:Nat):Int)<(n:Int)+1:=by omega
    have j9:((i:Int)+((k-2:Nat):Int)).toNat=i+(k-2):=by omega
    have j10:k-1<k:=by omega
    have j11:k-2<k:=by omega
    have FX:=Hd2 hX f5;have KV:=Hd kv;clear hX f5 kv hc0 hc2 hv1 hv2 ek;by_cases hc:Y<(gg:Int)*(v2:Int)/\X<=1073741823;·obtain⟨c1,c2⟩:=hc;have q1:decide (Y<(gg:Int)*(v2:Int))=true:=decide_eq_true c1;have q2:decide ((X:Int)<=1073741823)=true:=decide_eq_true (by omega);gi_wp2;refine ak [] (List.range 38) (by kernel_rfl) (by kernel_rfl) ?_;simp only[show List.range 38= [0,1,2,3,4,5,6,7,8,9,10,11,12,13,14,15,16,17,18,19,20,21,22,23,24,25,26,27,28,29,30,31,32,33,34,35,36,37]from rfl];refine eH ?_;refine aK ?_;refine lit ?_;gi_wp2;have hle:=hG.out.2;rw[HH.out.1]at hle;have hX:=FX.out.1;rw[HH.out.1]at hX;obtain⟨e1,e2,e3⟩:=GSH.out.less hG.out.1 hle hX (by have h1:=FX.out.2 c2;have h2:((gg*v2:Nat):Int)=(gg:Int)*(v2:Int):=Int.natCast_mul ..;omega);rw[<-HH.out.1]at e3;exact⟨⟨gg-1,by congr 1;omega,by omega,⟨e2,e3⟩,hS2.out.drew⟩,by simp[intOf];omega⟩
    ·have QA:gg*val (bC (y*2^s))<=val (ws++ [t])+val (bC (y*2^s)):=by
       have hle:=hG.out.2;rw[HH.out.1]at hle;have hX:=FX.out.1;rw[HH.out.1]at hX;refine GSH.out.done hG.out.1 hle hX ?_;by_cases c2:X<=1073741823;·right;have h1:=FX.out.2 c2;have h2:((gg*v2:Nat):Int)=(gg:Int)*(v2:Int):=Int.natCast_mul ..;have h3:¬Y<(gg:Int)*(v2:Int):=fun e=>hc ⟨e,c2⟩;omega
       ·left;exact Nat.lt_of_lt_of_le (show BB-1<1073741824 by decide) (by omega)
     have HN:=Hd QA;clear QA;have hcase:(decide (Y<(gg:Int)*(v2:Int))=false)\/(decide (Y<(gg:Int)*(v2:Int))=true/\decide ((X:Int)<=1073741823)=false):=by
      by_cases c1:Y<(gg:Int)*(v2:Int);·right;exact⟨decide_eq_true c1,decide_eq_false (fun e=>hc ⟨c1,by omega⟩)⟩
      left;exact decide_eq_false c1
     clear hc;rcases hcase with q1|⟨q1,q2⟩;·exact acU
     exact acU
end
end Go.Proofs.YtefnknhjlejalaaGreatDoor
