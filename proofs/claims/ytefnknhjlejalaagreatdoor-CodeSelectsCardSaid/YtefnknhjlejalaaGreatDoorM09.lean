/- Lemmas and walks; no statement is proved here. -/
import Derived.Test.YtefnknhjlejalaaGreatDoorM07
set_option linter.unusedVariables false
set_option linter.unusedSimpArgs false
set_option maxRecDepth 20000
set_option maxHeartbeats 6000000
namespace Go.Proofs.YtefnknhjlejalaaGreatDoor
variable {lo mid rest rs Q lo':List Nat}{t:Int}{i j d k X V N L x y s n:Nat}
def RR(lo mid:List Nat)(t:Int)(rest:List Nat):List Int:=ints lo++(ints mid++(t::ints rest))
theorem pO(l:List Nat):(ints l).length=l.length:=by simp[ints]
theorem wE(hi:lo.length=i)(h:mid[j]?=some d):(RR lo mid t rest)[i+j]?=some (d:Int):=by have hj:j<mid.length:=(List.getElem?_eq_some_iff.1 h).1;unfold RR;rw[List.getElem?_append_right (by rw[pO];omega),pO,show i+j-lo.length=j by omega,List.getElem?_append_left (by rw[pO];exact hj)];simp[ints,h]
theorem yt(hi:lo.length=i)(hk:mid.length=k):(RR lo mid t rest)[i+k]?=some t:=by unfold RR;rw[List.getElem?_append_right (by rw[pO];omega),pO,List.getElem?_append_right (by rw[pO];omega),pO,show i+k-lo.length-mid.length=0 by omega];rfl
theorem rH(hi:lo.length=i)(hj:j<mid.length)(d:Nat):(RR lo mid t rest).set (i+j) (d:Int)=RR lo (mid.set j d) t rest:=by unfold RR;rw[List.set_append_right _ _ (by rw[pO];omega),pO,show i+j-lo.length=j by omega,List.set_append_left _ _ (by rw[pO];exact hj)];simp[ints,List.map_set]
theorem lJ(hi:lo.length=i)(hk:mid.length=k)(z:Int):(RR lo mid t rest).set (i+k) z=RR lo mid z rest:=by unfold RR;rw[List.set_append_right _ _ (by rw[pO];omega),pO,List.set_append_right _ _ (by rw[pO];omega),pO,show i+k-lo.length-mid.length=0 by omega];rfl
theorem Wi(lo mid rest:List Nat)(t:Nat):RR lo mid (t:Int) rest=ints (lo++(mid++t::rest)):=by simp[RR,ints]
theorem BK(lo mid rest:List Nat):RR lo mid 0 rest=ints (lo++(mid++0::rest)):=Wi lo mid rest 0
structure LI(X V N k L j:Nat)(lo rs rest Q:List Nat):Prop where
 eq:X=val lo+BB^j*(val rs+V*val (Q.drop j))
 lol:lo.length=j
 Za:rs.length=k
 lt:val rs<V
 glo:Good lo
 grs:Good rs
 gq:Good Q
 ql:Q.length=L
 jl:j<=L
 zs:∀q,j+k+q<N->rest[q]?=some 0
 gz:Good rest
theorem LI.window(h:LI X V N k L (j+1) lo rs rest Q):∃(lo':List Nat) (d:Nat) (ws:List Nat) (t:Nat),lo=lo'++ [d]/\lo'.length=j/\d::rs=ws++ [t]/\ws.length=k/\Good ws/\t<BB/\Good lo'/\d<BB:=by
 have hl:=h.lol;have hne:lo≠ []:=fun e=>by rw[e]at hl;simp at hl
 have e1:=(List.dropLast_concat_getLast hne).symm;have hne2:lo.getLast hne::rs≠ []:=by simp
 have e2:=(List.dropLast_concat_getLast hne2).symm;have g:Good (lo.getLast hne::rs):=nT (h.glo _ (List.getLast_mem hne)) h.grs;refine⟨lo.dropLast,lo.getLast hne,(lo.getLast hne::rs).dropLast,(lo.getLast hne::rs).getLast hne2,e1,by simp[hl],e2,by simp[h.Za],?_,g _ (List.getLast_mem hne2),?_,h.glo _ (List.getLast_mem hne)⟩;·intro x hx;exact g x ((List.dropLast_sublist _).subset hx)
 intro x hx;exact h.glo x ((List.dropLast_sublist _).subset hx)
theorem LI.shape{ws:List Nat}{t:Nat}(h1:lo=lo'++ [d])(h2:d::rs=ws++ [t]):lo++(rs++rest)=lo'++(ws++t::rest):=by
 have:lo'++((d::rs)++rest)=lo'++((ws++ [t])++rest):=by rw[h2]
 rw[h1];simpa using this
theorem LI.less(h:LI X V N k L (j+1) lo rs rest Q)(hd:d<BB):val (d::rs)<BB*V:=X9 (W:=val (d::rs)) (R:=val rs) rfl h.lt hd
theorem LI.step{r':List Nat}(h:LI X V N k L (j+1) lo rs rest Q)(h1:lo=lo'++ [d])(hl:lo'.length=j)(hr:val r'=val (d::rs)%V)(hrl:r'.length=k)(hrg:Good r')(hV:0<V)(hd:d<BB):
 LI X V N k L j lo' r' (0::rest) (Q.set j (val (d::rs)/V))/\val (d::rs)/V<BB:=by
 have hlt:=h.less hd;have hq:val (d::rs)/V<BB:=(Nat.div_lt_iff_lt_mul hV).2 hlt;refine⟨⟨?_,hl,hrl,by rw[hr];exact Nat.mod_lt _ hV,?_,hrg,D9 h.gq _ hq,by rw[List.length_set];exact h.ql,by have:=h.jl;omega,?_,nT eX h.gz⟩,hq⟩
 ·have e:=h.eq;have hjq:j<Q.length:=by rw[h.ql];have:=h.jl;omega
  rw[drop_set hjq,val,hr];rw[h1,val_append,hl]at e;have e2:=Nat.mod_add_div (val (d::rs)) V;generalize hW:val (d::rs)=W at*
  have hW2:W=d+BB*val rs:=by rw[<-hW];rfl
  generalize W%V=m at*;generalize W/V=q at*;generalize val (Q.drop (j+1))=Y at*;rw[e];simp only[val,Nat.mul_zero,Nat.add_zero];rw[Nat.pow_succ];generalize BB^j=p at*
  have e3:p*BB*(val rs+V*Y)=p*(BB*val rs)+p*(BB*(V*Y)):=by rw[Nat.mul_assoc,Nat.mul_add,Nat.mul_add]
  have e4:p*(m+V*(q+BB*Y))=p*(m+V*q)+p*(BB*(V*Y)):=by rw[Nat.mul_add V,<-Nat.add_assoc,Nat.mul_add p];congr 2;rw[<-Nat.mul_assoc,<-Nat.mul_assoc,Nat.mul_comm V]
  rw[e3,e4,e2,hW2,Nat.mul_add];omega
 ·intro x hx;exact h.glo x (by rw[h1];exact List.mem_append_left _ hx)
 ·intro q hq'
  match q with
  |0=>rfl
  |q+1=>simpa using h.zs q (by omega)
theorem LI.start{T:List Nat}(hx:(bC x).length=n)(hy:(bC y).length=k)(hkn:k<=n)(hk:0<k)(hT:val (T.take (n+1))=x*2^s)(hg:Good T)(hl:n+1<=T.length):
 LI (x*2^s) (y*2^s) (n+1) k (n-k+1) (n-k+1) (T.take (n-k+1)) ((T.drop (n-k+1)).take k) (T.drop (n+1)) (List.replicate (n-k+1) 0):=by
 have e1:T.take (n+1)=T.take (n-k+1)++(T.drop (n-k+1)).take k:=by
  conv=>lhs;rw[show n+1=(n-k+1)+k by omega]
  rw[List.take_add]
 have hlo:(T.take (n-k+1)).length=n-k+1:=by rw[List.length_take];omega
 have e2:=hT;rw[e1,val_append,hlo]at e2;have hx2:x<BB^n:=(lY x n).2 (by omega);have hy2:BB^(k-1)<=y:=by
  have:=Jo (l:=bC y) (by intro e;rw[e]at hy;simp at hy;omega) (iQ y)
  rwa [hy,bI]at this
 refine⟨?_,hlo,by rw[List.length_take,List.length_drop];omega,?_,lD hg _,lD (uI hg _) _,?_,by simp,Nat.le_refl _,?_,uI hg _⟩;·have hz:(List.replicate (n-k+1) (0:Nat)).drop (n-k+1)= []:=List.drop_of_length_le (by rw[List.length_replicate];exact Nat.le_refl _);rw[hz,show val []=0 from rfl,Nat.mul_zero,Nat.add_zero];exact e2.symm
 ·have h1:BB^(n-k+1)*val ((T.drop (n-k+1)).take k)<=x*2^s:=by omega
  have h2:x*2^s<BB^n*2^s:=Nat.mul_lt_mul_of_pos_right hx2 (Nat.pow_pos (by decide));have h3:BB^n*2^s=BB^(n-k+1)*(BB^(k-1)*2^s):=by rw[<-Nat.mul_assoc,<-Nat.pow_add,show n-k+1+(k-1)=n by omega]
  have h4:BB^(k-1)*2^s<=y*2^s:=Nat.mul_le_mul_right _ hy2;have h5:BB^(n-k+1)*val ((T.drop (n-k+1)).take k)<BB^(n-k+1)*(BB^(k-1)*2^s):=by omega
  have:=Nat.lt_of_mul_lt_mul_left h5;omega
 ·intro d hd;rw[List.eq_of_mem_replicate hd];exact eX
 ·intro q hq;omega
theorem LI.done(h:LI (x*2^s) (y*2^s) (n+1) k L 0 [] rs rest Q)(hk:k<=n+1):val Q=x/y/\val rs=(x%y)*2^s/\val ((rs++rest).take (n+1))=(x%y)*2^s:=by
 have e:=h.eq;simp only[val,Nat.pow_zero,Nat.one_mul,Nat.zero_add,List.drop_zero]at e;have hp:0<2^s:=Nat.pow_pos (by decide);have e':x*2^s=val Q*(y*2^s)+val rs:=by rw[Nat.mul_comm (val Q)];omega
 obtain⟨h1,h2⟩:=Jr e' h.lt;rw[Nat.mul_div_mul_right _ _ hp]at h1;rw[Nat.mul_mod_mul_right]at h2;refine⟨h1,h2,?_⟩;have:(rs++rest).take (n+1)=rs++List.replicate (n+1-k) 0:=by
  apply List.ext_getElem?;intro i;by_cases hi:i<n+1
  ·rw[List.getElem?_take_of_lt hi];by_cases hik:i<k;·rw[List.getElem?_append_left (by rw[h.Za];exact hik),List.getElem?_append_left (by rw[h.Za];exact hik)]
   rw[List.getElem?_append_right (by rw[h.Za];omega),List.getElem?_append_right (by rw[h.Za];omega),h.Za,h.zs (i-k) (by omega)];rw[List.getElem?_replicate,if_pos (by omega)]
  rw[List.getElem?_eq_none (by rw[List.length_take];omega),List.getElem?_eq_none (by simp[h.Za];omega)]
 rw[this,val_append,zq,Nat.mul_zero,Nat.add_zero,h2]
end Go.Proofs.YtefnknhjlejalaaGreatDoor
