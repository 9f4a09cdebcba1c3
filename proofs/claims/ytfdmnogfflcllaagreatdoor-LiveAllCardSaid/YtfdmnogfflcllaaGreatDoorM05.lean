/- Lemmas -/
import Derived.Lib.SmallJoins
import Derived.Test.YtfdmnogfflcllaaGreatDoorM01
set_option linter.all false
set_option maxRecDepth 100000
set_option maxHeartbeats 0
namespace Go.Proofs.YtfdmnogfflcllaaGreatDoor
open Go.Proofs.Tryz Go.RowKit
theorem AP{p:Prop}(h:p:=by
 rcases I with B|B
 ·have:bP v'=bP v:=by unfold bP;rw[B]
  rw[this];exact jf y ⟨r.size,fun q d s=>r.block q d (fun C=>s (di _ (bJ.2 C.symm)))⟩
 have K:Rep.rd w (w.heap.size::(bP v++M)) x p:=Rep.more y pD;have N:=jf K (w':=w') ⟨r.size,fun q d s=>r.block q d (fun C=>s (bE _ (di _ (bJ.2 C.symm))))⟩;refine oY N (fun q d=>?_);rcases cK.1 d with d|d;·rw[bJ,B]at d;rw[<-fk d];exact cw
 exact bE _ (cP _ d)):p:=h
theorem Iw{p:Prop}(h:p:=by
 have O:A.map (fun a:Addr=>a.add (0*sz))=A:=by cases A<;>simp[Addr.add]
 simp only[Result.andThen,sliced,O,ite_self,fv,Nat.sub_zero]):p:=h
theorem Np{p:Prop}(h:p:=by have e:i%1=0:=Nat.mod_one i;simp[madeCells,Value.cells,e]):p:=h
theorem X9{p:Prop}(h:p:=by have:xs= []:=de.1 h.len;subst this;exact⟨none,0,rfl,Sl.nil0⟩):p:=h
theorem YB{p:Prop}(h:p:=by
 simp only[ck,gh]at this
 rwa [show len+(m-len)=m by omega]at this):p:=h
theorem akB{p:Prop}(h:p:=by exact⟨[],none,0,0,rfl,rfl,bj _,by simp[jG],pj,.inl rfl⟩):p:=h
variable {t ty:TypeId}{f:Field}{off k sz cp m:Nat}{i:TypeInfo}{z u:Value}{vs:List Value}
section
open Go.ChangeShapes Go.WideShapes Go.ChangeAt Go.Deep Go.Joins
def Opens(α:Type) [Rep α] (P:Program)(t:TypeId):Prop:=∀(H:Type) (enc:TypeId×Value->H) (w:World) (held:Bool) (fuel:Nat) (cs:List Value) (d:DataW H) (pl:List MemPlace),DataW.trod enc P w 0 (fun _=>true) held fuel t cs=some (d,pl)->(∀n,n∈d.weights P t->n<=reachBytes)->∃v:α,Rep.rd w [] v cs
theorem wf_i64{n:Int}(h:(Lit.int .i64 n).wf=true):i64 n:=by have:=bounds_i64 h;unfold i64;omega
theorem QU{P:Program}(ht:P.underlying t=some (.int .i64)):Opens Int P t:=by intro H a w j g cs d o h _;obtain⟨n,rfl,_,I⟩:=DataW.trod_int ht h;exact⟨n,rfl,wf_i64 I⟩
theorem IK{α:Type}{p:Nat->α->Prop}:∀(n:Nat),(∀i,i<n->∃x,p i x)->∃xs:List α,xs.length=n/\∀i x,xs[i]?=some x->p i x
 |0,_=>⟨[],rfl,po⟩
 |n+1,h=>by
  obtain⟨xs,hl,hx⟩:=IK n (fun i hi=>h i pj);obtain⟨y,hy⟩:=h n pj;refine⟨xs++ [y],by simp[hl],fun i x hi=>?_⟩;by_cases g:i<n;·rw[dk pj]at hi;exact hx i x hi
  have hi2:=hi;have:i<(xs++ [y]).length:=(bu.1 hi).1;obtain rfl:i=n:=by simp[hl]at this;omega
  rw[cQ pj,hl]at hi;simp at hi;rw[<-hi];exact hy
theorem weightsAll_mem{H:Type}{P:Program}{e:TypeId}{d:DataW H}{n:Nat}(hn:n∈d.weights P e):∀(ds:List (DataW H)),d∈ds->n∈DataW.weightsAll P e ds
 | [],h=>by simp at h
 |x::r,h=>by
  simp only[DataW.weightsAll,cK];rcases cD.1 h with rfl|h;·exact .inl hn
  exact .inr (weightsAll_mem hn r h)
theorem iI{α:Type} [kE α] {P:Program}{e:TypeId}(ht:P.underlying t=some (.slice e))(hc:P.cellsOf e=Rep.sz α)(hb:1<=P.bytesOf e)(ho:Opens α P e):Opens (List α) P t:=by
 intro H O w S ad cs d pl h J;have Y:=kE.pos (α:=α);rcases open_slice ht h with⟨rfl,_⟩|⟨a,len,ac,m,n,D,N,rfl,_,X,hm,G,hx,R⟩;·exact akB
 obtain⟨rfl,rfl⟩:=me hx;simp only[mf]at G;subst G;have aa:m*P.bytesOf e<=reachBytes:=by have:=J ((((List.range len).map D).length+((List.range (m-len)).map fun j=>D (len+j)).length)*P.bytesOf e) (by simp[DataW.weights,ht]);exact YB
 have af:m<=reachBytes:=cF (by simpa using mK m hb) aa;have hr:reachBytes<=140737488355328:=pt;have ae:maxLen=9223372036854775807:=pt;obtain⟨xs,E,K⟩:=IK (α:=α) (p:=fun i x=>∃q,w.cells? 0 (a.add (i*Rep.sz α)) (Rep.sz α)=some q/\Rep.rd w [] x q) len (fun i T=>by obtain⟨B,g,r⟩:=R i pj;rw[hc]at g;obtain⟨v,hv⟩:=ho H O w S n B (D i) (N i) r (fun k y=>J k (by simp only[DataW.weights,ht,cD,cK];exact .inr (.inl (weightsAll_mem y _ (eE.2 ⟨i,ga.2 T,rfl⟩)))));exact⟨v,B,g,hv⟩);refine⟨xs,some a,len,m,rfl,E,X,by unfold jG;omega,pj,?_⟩;by_cases V:len=0;·left;subst V;simpa using E
 right;obtain⟨b,o,ab⟩:=a;have Z:ab=none:=by obtain⟨q,g,-⟩:=K 0 (xs[0]'pj) (cd pj);obtain⟨_,C,r⟩:=nx g;have s:=r 0 Y;rw[cd pj]at s;simpa[Addr.add]using World.cell?_spot s
 subst Z;refine⟨b,o,rfl,fun k x y=>?_⟩;obtain⟨q,g,r⟩:=K k x y;refine⟨q,r,po,fun j u I=>?_⟩;obtain⟨_,C,s⟩:=nx g;have:=s j (by rw[<-C];exact(bu.1 I).1);rw[I,eT,eT]at this;exact this
instance {α β:Type} [Rep α] [Rep β]:Rep (α×β) where
 sz:=Rep.sz α+Rep.sz β
 rd w M x cs:=∃ds es,cs=ds++es/\Rep.rd w M x.1 ds/\Rep.rd w M x.2 es
 len:=by rintro w M x cs ⟨ds,es,rfl,h1,h2⟩;rw[cJ,oO h1,oO h2]
 keep:=by rintro w w' M x cs ⟨ds,es,rfl,h1,h2⟩ k;exact⟨ds,es,rfl,jf h1 k,jf h2 k⟩
 less:=by rintro w M M' x cs ⟨ds,es,rfl,h1,h2⟩ k;exact⟨ds,es,rfl,oY h1 k,oY h2 k⟩
 more:=by rintro w M x cs b ⟨ds,es,rfl,h1,h2⟩ k;exact⟨ds,es,rfl,Rep.more h1 k,Rep.more h2 k⟩
instance {α β:Type} [kE α] [Rep β]:kE (α×β):=⟨bX (kE.pos (α:=α)) (Nat.le_add_right _ _)⟩
instance:kE Bool:=⟨pt⟩
instance:Rep ByteArray where
 sz:=1
 rd _ _ n cs:=cs= [.string n]
 len h:=by rw[h];rfl
 keep h _:=h
 less h _:=h
 more h _:=h
instance:kE ByteArray:=⟨pt⟩
theorem qP{P:Program}(ht:P.underlying t=some .bool):Opens Bool P t:=by intro H a w j g cs d o h _;obtain⟨b,rfl,_⟩:=DataW.trod_bool ht h;exact⟨b,rfl⟩
theorem IL{P:Program}(ht:P.underlying t=some .string):Opens ByteArray P t:=by intro H a w j g cs d o h _;obtain⟨s,rfl,_⟩:=DataW.trod_string ht h;exact⟨s,rfl⟩
def uq(α:Type) [Rep α] (P:Program)(fs:List Field)(off:Nat):Prop:=
 ∀(H:Type) (enc:TypeId×Value->H) (w:World) (held:Bool) (n:Nat) (cs:List Value) (xs:List (DataW H×List MemPlace)),
  xs.length=fs.length->cs.length=off+Rep.sz α->
  (∀(i:Nat) (f:Field),fs[i]?=some f->DataW.trod enc P w 0 (fun _=>true) held n f.type ((cs.drop f.offset).take (P.cellsOf f.type))=xs[i]?)->
  (∀(i:Nat) (f:Field) (y:DataW H×List MemPlace),fs[i]?=some f->xs[i]?=some y->∀k,k∈y.1.weights P f.type->k<=reachBytes)->
  ∃v:α,Rep.rd w [] v (cs.drop off)
theorem iL{α:Type} [Rep α] {P:Program}(ho:f.offset=off)(hc:P.cellsOf f.type=Rep.sz α)(h:Opens α P f.type):uq α P [f] off:=by
 intro H a w d n cs xs r j g I
 match xs,r with
 | [x],_=>have V:=g 0 f rfl;simp only[iz]at V;rw[ho,hc,bR (by rw[eJ];omega)]at V;exact h H a w d n _ x.1 x.2 V (I 0 f x rfl rfl)
theorem aX{α β:Type} [Rep α] [Rep β] {P:Program}{fs:List Field}(ho:f.offset=off)(hc:P.cellsOf f.type=Rep.sz α)(h:Opens α P f.type)(hr:uq β P fs (off+Rep.sz α)):uq (α×β) P (f::fs) off:=by
 intro H j w o n cs xs r s p I
 match xs,r with
 |x::ys,r=>have V:=p 0 f rfl;simp only[iz]at V;rw[ho,hc]at V;obtain⟨a,q⟩:=h H j w o n _ x.1 x.2 V (I 0 f x rfl rfl);have C:cs.length=off+(Rep.sz α+Rep.sz β):=s;obtain⟨b,hb⟩:=hr H j w o n cs ys (by simpa using r) pj (fun i g d=>by simpa using p (i+1) g (by simpa using d)) (fun i g y d B=>I (i+1) g y (by simpa using d) (by simpa using B));refine⟨(a,b),(cs.drop off).take (Rep.sz α),cs.drop (off+Rep.sz α),?_,q,hb⟩;rw[<-List.drop_drop,mh]
theorem fG{α:Type} [Rep α] {P:Program}{fs:Array Field}(hs:P.underlying t=some (.struct fs))(hC:P.cellsOf t=Rep.sz α)(h:uq α P fs.toList 0):Opens α P t:=by intro H g w p D cs d E o I;obtain⟨xs,n,_,hx,s,x,q⟩:=DataW.trod_struct hs o;obtain⟨rfl,rfl⟩:=me hx;obtain⟨v,B⟩:=h H g w p n cs xs (by simpa using x) (by rw[dC,<-hC];exact s) (fun i f a=>q i f (by simpa using a)) (fun i f y a C k r=>I k (by simp only[DataW.weights,hs];exact nv (j:=i) (by rw[cM,a];rfl) (by rw[cM,C];rfl) k r));exact⟨v,by simpa using B⟩
end
theorem qo:(prog.info? 3).map (fun i=>(i.zero,i.size,i.bytes))=some (some (.int .i64 0),1,8):=pk
theorem NI{w:World}{base:Nat}{v:Value}{n:Nat}{xs:List Int}(h:w.ownsRow base 3 1 v n (xs.map (Value.int .i64)))(hb:base<=w.heap.size)(hn:n<=1000000000)(g:Nat)(x:Int)
 (hc:w.cell? ⟨g,0,none⟩=some (.int .i64 x)):
 ∃v' w',(Builtin.append_ #[26,26] 26 #[v,.slice (some ⟨g,0,none⟩) 1 1]).run prog w=.ok v' w'/\w'.ownsRow base 3 1 v' (n+1) ((xs++ [x]).map (Value.int .i64))/\w.grownBy w' v.ownBlock/\(v'.ownBlock=v.ownBlock\/v'.ownBlock=some w.heap.size)/\∃gg cc,v'=.slice (some ⟨gg,0,none⟩) (n+1) cc:=by
 obtain⟨C,q,r,y,B⟩:=lB qo;obtain⟨v',w',a,d,s,_,o⟩:=mw (P:=prog) w base 26 26 3 C (.int .i64 0) 1 8 underlying26 q r y B rfl pt v n _ h ⟨g,0,none⟩ 1 1 [x] rfl (by intro j u p;match j,p with|0,p=>cases p;exact hc) (by simp[Value.oneCell']) (by unfold maxLen;omega) pj hb;rw[ed];exact⟨v',w',a,d,s,o,ownsRow_succ d⟩
theorem Sl.nil0{α:Type} [Rep α] {w:World}{M:List Nat}:Sl α w M none 0 0 []:=⟨rfl,bj _,by simp[jG],pj,.inl rfl⟩
section
variable {α:Type} [kE α] {M:List Nat}{w:World}{A:Option Addr}{n c:Nat}{xs:List α}
theorem Sl.nY(h:Sl α w M A n c xs)(hk:k<=n):Sl α w M A k c (xs.take k):=by
 refine⟨by simp[h.len];omega,cF hk h.cap,h.room,cF hk h.small,?_⟩;rcases h.at_ with g|⟨b,o,rfl,g⟩;·left;simp[g]
 right;refine⟨b,o,rfl,fun j x hx=>g j x ?_⟩;have:j<k:=by have:=(bu.1 hx).1;simp at this;omega
 rwa [eQ this]at hx
theorem Sl.cutFrom(h:Sl α w M A n c xs)(hk:k<=n){A':Option Addr}(hA:k<n->∀b o,A=some ⟨b,o,none⟩->A'=some ⟨b,o+k*Rep.sz α,none⟩):Sl α w M A' (n-k) (c-k) (xs.drop k):=by
 have d:=h.len;have p:=h.cap;refine⟨by simp[h.len],pj,by have:=h.room;unfold jG at*;omega,by have:=h.small;omega,?_⟩;by_cases q:k=n;·left;exact cB pj
 rcases h.at_ with g|⟨b,o,rfl,g⟩;·left;simp[g]
 right;refine⟨b,o+k*Rep.sz α,hA pj b o rfl,fun j x hx=>?_⟩;rw[fy]at hx;obtain⟨a,H,O⟩:=g _ x hx;exact⟨a,H,by rwa [show o+(k+j)*Rep.sz α=o+k*Rep.sz α+j*Rep.sz α by rw[fY,oE]]at O⟩
end
theorem yQ{w:World}(base:Nat)(t ty e:TypeId)(i:TypeInfo)(size c:Nat)(ht:prog.underlying t=some (.slice e))(hi:prog.info? e=some i)
 (v:Value) (n:Nat) (xs:List Value) (hown:w.ownsRow base e size v n xs):
 (Builtin.append_ #[t,t] ty #[v,.slice none 0 c]).run prog w=.ok v w:=by
 rcases hown.2 with⟨rfl,rfl⟩|⟨g,d,j,rfl,_,_,a,_⟩;·simp[Builtin.append_,run_underlying ht,sizeOf,typeInfo,hi,Builtin.lenOf,Builtin.firstCells]
 ·simp[Builtin.append_,run_underlying ht,sizeOf,typeInfo,hi,Builtin.lenOf,Builtin.firstCells,a,storeCells]
theorem nZ{e:TypeId}(ht:prog.underlying t=some (.slice e))(hz:∀w,(sizeOf e).run prog w=.ok sz w)(A:Option Addr){n:Nat}(hk:k<=n)(hn:n<=cp)(w:World):
 (Instr.sliceAt t (.slice A n cp) none (some (.int .i64 (k:Int))) none).run prog w=.ok (.slice A k cp) w:=by
 have d:prog.elem t=e:=by simp[Program.elem,ht]
 have g:prog.underlying t=some (.slice (prog.elem t)):=by rw[d];exact ht
 rw[run_sliceAt_slice w t _ _ _ _ g,run_slice_h w t A n cp g .i64 (k:Int) pj pj,d,hz];exact Iw
def wZ(A:Option Addr)(cp k sz:Nat):Option Addr:=if cp=k then A else A.map (fun a=>a.add (k*sz))
theorem NJ{e:TypeId}(ht:prog.underlying t=some (.slice e))(hz:∀w,(sizeOf e).run prog w=.ok sz w)(A:Option Addr){n:Nat}(hk:k<=n)(w:World):
 (Instr.sliceAt t (.slice A n cp) (some (.int .i64 (k:Int))) none none).run prog w=.ok (.slice (wZ A cp k sz) (n-k) (cp-k)) w:=by
 have a:prog.elem t=e:=by simp[Program.elem,ht]
 have d:prog.underlying t=some (.slice (prog.elem t)):=by rw[a];exact ht
 rw[run_sliceAt_slice w t _ _ _ _ d,run_slice_l w t A n cp d .i64 (k:Int) pj pj,a,hz];simp only[Result.andThen,sliced,fv,wZ]
theorem Sl.cut{α:Type} [kE α] {M:List Nat}{w:World}{A:Option Addr}{n c:Nat}{xs:List α}(h:Sl α w M A n c xs)(hk:k<=n)(hsz:Rep.sz α=sz):Sl α w M (wZ A c k sz) (n-k) (c-k) (xs.drop k):=by subst hsz;refine h.cutFrom hk fun a b o e=>?_;have:=h.cap;rw[wZ,if_neg pj,e,gw,eT]
def b_(M:List Nat)(w:World):Prop:=∀k,k∈M->k<w.heap.size
theorem b_.nil(w:World):b_ [] w:=fun _ h=>by cases h
theorem b_.le{M:List Nat}{w w':World}(h:b_ M w)(hs:w.heap.size<=w'.heap.size):b_ M w':=fun k hk=>bX (h k hk) hs
theorem Sl.go{α:Type} [Rep α] {M:List Nat}{w w':World}{A:Option Addr}{n c:Nat}{xs:List α}(h:Sl α w M A n c xs)(hb:Below w w w'):Sl α w' M A n c xs:=h.keep (bq hb M)
def Row(w:World)(b:Nat)(l:List Int):Prop:=w.heap[b]?=some (.cells (l.map (Value.int .i64)).toArray 3 (0,0))
section
variable {w w':World}{b:Nat}{l:List Int}
theorem Row.lt(h:Row w b l):b<w.heap.size:=(cR.1 h).1
theorem Row.cell(h:Row w b l){k:Nat}{x:Int}(hk:l[k]?=some x):w.cell? ⟨b,k,none⟩=some (.int .i64 x):=by unfold Row at h;simp[World.cell?,h,hk]
theorem Row.free(h:Row w b l)(k:Nat):w.frozen? ⟨b,k,none⟩=false:=by unfold Row at h;simp[World.frozen?,h]
theorem Row.put(h:Row w b l)(k:Nat)(x:Int):Row (w.setCell ⟨b,k,none⟩ x) b (l.set k x):=by
 unfold Row at*
 simp only[World.setCell,Array.getElem?_modify,mf];rw[h];simp only[gw,Option.isSome_none,gm,oB,eN,nA]
theorem Row.drew(h:Row w b l):Row w.drew b l:=h
theorem Row.go(h:Row w b l){s:Nat}(hb:Below s w w')(hs:b<s):Row w' b l:=by unfold Row at*;rw[hb.block b hs];exact h
theorem Row.uw(h:Row w b l){g:Nat}(hg:b≠g)(k:Nat)(u:Value):Row (w.setCell ⟨g,k,none⟩ u) b l:=by
 unfold Row at*
 rw[jn w _ _ b hg];exact h
theorem Row.sl(h:Row w b l){M:List Nat}(hM:b∉M){n:Nat}(hn:l.length=n)(hs:n<=1000000)(hi:∀x,x∈l->i64 x):Sl Int w M (some ⟨b,0,none⟩) n n l:=by
 refine⟨hn,bj _,by unfold jG;omega,pj,.inr ⟨b,0,rfl,fun k x a=>⟨_,⟨rfl,hi x (bh a)⟩,hM,fun j u p=>?_⟩⟩⟩
 match j,p with
 |0,p=>cases p;simpa[show Rep.sz Int=1 from rfl]using h.cell a
end
theorem QX(N:Nat):madeCells (Value.int .i64 0).cells (N*1)=((List.replicate N (0:Int)).map (Value.int .i64)).toArray:=by
 apply ph;·simp[madeCells]
 intro i a d;exact Np
theorem qR(ht:prog.underlying t=some (.slice 3))(N:Nat)(hN:N<=1000000)(w:World):(Instr.makeSlice t (.int .i64 (N:Int)) (.int .i64 (N:Int))).run prog w=.ok (.slice (some ⟨w,0,none⟩) N N) (w.alloc (.cells ((List.replicate N (0:Int)).map (Value.int .i64)).toArray 3)):=by obtain⟨o,a,d,g,j⟩:=lB qo;have:=run_make (P:=prog) w t 3 o (.int .i64 0) ht a d .i64 .i64 (N:Int) (N:Int) pj (Int.le_refl _) (by rw[j];omega) pj;rw[this,g];simp only[fv,QX]
theorem Row.new(N:Nat)(w:World):Row (w.alloc (.cells ((List.replicate N (0:Int)).map (Value.int .i64)).toArray 3)) w.heap.size (List.replicate N 0):=gH w _
class kJ(α:Type) extends kE α where
 one:∀{w M x cs},rd w M x cs->∀u,u∈cs->u.oneCell'=true
instance:kJ Int:=⟨by rintro w M x cs ⟨rfl,_⟩ u hu;simp at hu;subst hu;rfl⟩
instance:kJ Bool:=⟨by rintro w M x cs h u hu;have h:cs=_:=h;subst h;simp at hu;subst hu;rfl⟩
instance {α:Type} [kE α]:kJ (List α):=⟨by rintro w M x cs ⟨A,n,c,rfl,_⟩ u hu;simp at hu;subst hu;rfl⟩
instance {α β:Type} [kJ α] [kJ β]:kJ (α×β):=⟨by
 rintro w M x cs ⟨ds,es,rfl,h1,h2⟩ u hu;rcases cK.1 hu with hu|hu;·exact kJ.one h1 u hu
 exact kJ.one h2 u hu⟩
theorem Sl.row{α:Type} [kJ α] {w:World}{M:List Nat}{b o n c:Nat}{ys:List α}(h:Sl α w M (some ⟨b,o,none⟩) n c ys):
 ∃cs:List Value,cs.length=n*Rep.sz α/\(∀j u,cs[j]?=some u->w.cell? ⟨b,o+j,none⟩=some u)/\(∀u,u∈cs->u.oneCell'=true)/\∀k y,ys[k]?=some y->∃es,Rep.rd w M y es/\∀j u,es[j]?=some u->cs[k*Rep.sz α+j]?=some u:=by
 have B:=kE.pos (α:=α);have E:∀k y,ys[k]?=some y->∃es,Rep.rd w M y es/\∀j u,es[j]?=some u->w.cell? ⟨b,o+(k*Rep.sz α+j),none⟩=some u:=by
  intro k y d;rcases h.at_ with g|⟨G,H,e,g⟩;·rw[g]at d;simp at d
  obtain⟨es,a,q⟩:=g k y d;cases e;exact⟨es,a,fun j u p=>by have:=q.2 j u p;rwa [oE]at this⟩
 have D:∀j,j<n*Rep.sz α->∃u,w.cell? ⟨b,o+j,none⟩=some u/\u.oneCell'=true:=by
  intro j C;have s:j/Rep.sz α<ys.length:=by rw[h.len];exact(ld B).2 C
  obtain⟨es,a,q⟩:=E _ _ (cd s);have x:j%Rep.sz α<es.length:=by rw[oO a];exact k_ _ B
  refine⟨es[j%Rep.sz α],?_,kJ.one a _ (fN x)⟩;have:=q _ _ (cd x)
  rwa [ke,Nat.div_add_mod]at this
 have at_:∀j,j<n*Rep.sz α->∀u,w.cell? ⟨b,o+j,none⟩=some u->((List.range (n*Rep.sz α)).map (fun j=>(w.cell? ⟨b,o+j,none⟩).getD undef))[j]?=some u:=by intro j C u p;simp[C,p]
 refine⟨(List.range (n*Rep.sz α)).map (fun j=>(w.cell? ⟨b,o+j,none⟩).getD undef),po,?_,?_,?_⟩
 ·intro j u p;have C:j<n*Rep.sz α:=by simpa using(bu.1 p).1
  obtain⟨v,r,_⟩:=D j C;rw[at_ j C v r]at p;obtain rfl:=fk p;exact r
 ·intro u p;obtain⟨j,C,rfl⟩:=eE.1 p;obtain⟨v,r,a⟩:=D j (by simpa using C);rw[r];exact a
 ·intro k y d;obtain⟨es,a,q⟩:=E k y d;refine⟨es,a,fun j u p=>at_ _ ?_ u (q j u p)⟩;have C:j<Rep.sz α:=by rw[<-oO a];exact(bu.1 p).1
  have s:k<n:=by rw[<-h.len];exact(bu.1 d).1
  have:(k+1)*Rep.sz α<=n*Rep.sz α:=dy _ s;rw[fY,fh]at this;omega
def bP(v:Value):List Nat:=v.ownBlock.toList
theorem bJ{v:Value}:k∈bP v↔v.ownBlock=some k:=by unfold bP;cases v.ownBlock<;>simp[eq_comm]
structure bD(α:Type) [kJ α] (e:TypeId)(w:World)(M:List Nat)(base:Nat)(v:Value)(n:Nat)(xs:List α):Prop where
 len:xs.length=n
 ex:∃cs:List Value,w.ownsRow base e (Rep.sz α) v n cs/\∀k x,xs[k]?=some x->∃es,Rep.rd w (bP v++M) x es/\∀j u,es[j]?=some u->cs[k*Rep.sz α+j]?=some u
section
variable {α:Type} [kJ α] {e:TypeId}{w w':World}{M:List Nat}{base:Nat}{v:Value}{n:Nat}{xs ys:List α}
theorem qp{size:Nat}{cs:List Value}(h:w.ownsRow base e size v n cs)(hb:∀k,v.ownBlock=some k->k<w.heap.size->w'.heap[k]?=w.heap[k]?):w'.ownsRow base e size v n cs:=by
 refine⟨h.1,?_⟩;rcases h.2 with g|⟨g,a,j,rfl,o,d,s⟩;·exact .inl g
 exact .inr ⟨g,a,j,rfl,o,(hb g rfl (cR.1 d).1).trans d,s⟩
theorem bD.go(h:bD α e w M base v n xs)(hb:Below w w w'):bD α e w' M base v n xs:=by obtain⟨cs,g,j⟩:=h.ex;refine⟨h.len,cs,qp g (fun k _ o=>hb.block k o),fun k x hx=>?_⟩;obtain⟨d,a,b⟩:=j k x hx;exact⟨d,jf a (bq hb _),b⟩
theorem bD.lt(h:bD α e w M base v n xs){k:Nat}(hk:v.ownBlock=some k):base<=k/\k<w.heap.size:=by obtain⟨cs,a,-⟩:=h.ex;exact a.lt k hk
theorem bD.nil(w:World)(M:List Nat)(base:Nat):bD α e w M base (.slice none 0 0) 0 []:=⟨rfl, [],World.ownsRow_nil _ _ _ _,fun k x hx=>by simp at hx⟩
theorem bD.lit(w:World)(M:List Nat){base:Nat}(hb:base<=w.heap.size):bD α e (w.alloc (.cells #[] e)) M base (.slice (some ⟨w,0,none⟩) 0 0) 0 []:=⟨rfl, [],by simpa using lE (base:=base) (size:=Rep.sz α) (e:=e) w #[] 0 hb (by simp[maxLen]) po,fun k x hx=>by simp at hx⟩
theorem bD.sl(h:bD α e w M base v n xs)(hn:n<=1000000000)(hd:∀k,k∈M->k<base):∃A c,v=.slice A n c/\Sl α w M A n c xs:=by
 obtain⟨cs,d,r⟩:=h.ex;rcases d.2 with⟨rfl,rfl⟩|⟨g,o,J,rfl,hb,B,E,y,N,H⟩;·exact X9
 refine⟨_,o,rfl,h.len,E,by simpa[jG,maxLen]using y,pj,.inr ⟨g,0,rfl,fun k x C=>?_⟩⟩;obtain⟨p,a,b⟩:=r k x C;refine⟨p,oY a (fun q G=>cP _ G),fun D=>by have:=hd g D;omega,fun j u I=>?_⟩;have s:=b j u I;have K:=(bu.1 s).1;have:=d.1;rw[<-H,eQ pj,jj]at s;simp[World.cell?,B,s]
theorem bD.uy(h:bD α e w M base v n xs)(hb:base<=w.heap.size)(ht:prog.underlying t=some (.slice e))(hi:prog.info? e=some i)(hz:i.zero=some z)(hs:i.size=Rep.sz α)(hzs:z.cells.size=Rep.sz α)
 {A:Option Addr}{c:Nat}(hy:Sl α w (bP v++M) A m c ys) (hnm:(n+m)*i.bytes<=140737488355328) (hn2:n+m<=1000000000):
 ∃v' w',(Builtin.append_ #[t,t] ty #[v,.slice A m c]).run prog w=.ok v' w'/\bD α e w' M base v' (n+m) (xs++ys)/\w.grownBy w' v.ownBlock/\(v'.ownBlock=v.ownBlock\/v'.ownBlock=some w.heap.size):=by
 obtain⟨cs,J,R⟩:=h.ex;have X:=kE.pos (α:=α);by_cases S:∃a,A=some a
 ·obtain⟨a,rfl⟩:=S;by_cases s:m=0;·subst s;have hys:ys= []:=de.1 hy.len;subst hys;obtain⟨v',w',O,T,r,_,I⟩:=mw (P:=prog) w base t ty e i z (Rep.sz α) i.bytes ht hi hz hs rfl hzs X v n cs J a 0 c [] po po po (by unfold maxLen;omega) pj hb;refine⟨v',w',O,?_,r,I⟩;rw[dx]at T |-;refine⟨h.len,cs,T,fun k x hx=>?_⟩;obtain⟨p,y,H⟩:=R k x hx;refine⟨p,?_,H⟩;exact AP
  have ab:ys≠ []:=fun D=>s (by rw[<-hy.len,D];rfl);obtain⟨b,o,rfl⟩:∃b o,a=⟨b,o,none⟩:=by
   rcases hy.at_ with g|⟨b,o,D,_⟩;·exact absurd g ab
   exact⟨b,o,fk D⟩
  obtain⟨Y,n1,n2,n3,n4⟩:=hy.row;obtain⟨v',w',O,T,r,_,I⟩:=mw (P:=prog) w base t ty e i z (Rep.sz α) i.bytes ht hi hz hs rfl hzs X v n cs J ⟨b,o,none⟩ m c Y n1 (fun j u G=>by rw[eT];exact n2 j u G) n3 (by unfold maxLen;omega) hnm hb;refine⟨v',w',O,?_,r,I⟩;have Z:∀{x:α}{p:List Value},Rep.rd w (bP v++M) x p->Rep.rd w' (bP v'++M) x p:=by intro x p y;exact AP
  refine⟨by rw[cJ,h.len,hy.len],cs++Y,T,fun k x hx=>?_⟩;have V:=J.1;rcases lP k n with E|E;·rw[dk (by rw[h.len];exact E)]at hx;obtain⟨p,y,H⟩:=R k x hx;refine⟨p,Z y,fun j u G=>?_⟩;have:=H j u G;rw[dk (bu.1 this).1];exact this
  rw[cQ (by rw[h.len];exact E),h.len]at hx;obtain⟨p,y,H⟩:=n4 _ x hx;refine⟨p,Z y,fun j u G=>?_⟩;have:=H j u G;rw[cQ (by rw[V];have:=dy (Rep.sz α) E;omega),V]
  rwa [show k*Rep.sz α+j-n*Rep.sz α=(k-n)*Rep.sz α+j by rw[Nat.sub_mul];have:=dy (Rep.sz α) E;omega]
 ·have aa:A=none:=by cases A with|none=>rfl|some a=>exact absurd ⟨a,rfl⟩ S
  subst aa;have hys:ys= []:=by rcases hy.at_ with g|⟨b,o,D,_⟩;exact g;cases D
  subst hys;obtain rfl:m=0:=by have:=hy.len;simpa using this.symm
  exact⟨v,w,yQ base _ _ e i (Rep.sz α) c ht hi v n _ J,by simpa using h,⟨rfl,rfl,rfl,bj _,fun _ _ _=>rfl⟩,.inl rfl⟩
theorem bD.append(h:bD α e w M base v n xs)(hb:base<=w.heap.size)(ht:prog.underlying t=some (.slice e))(hi:prog.info? e=some i)(hz:i.zero=some z)(hs:i.size=Rep.sz α)(hzs:z.cells.size=Rep.sz α)
 (_hM:∀k,k∈M->k<base) {A:Option Addr}{c:Nat}(hy:Sl α w (bP v++M) A m c ys) (hnm:(n+m)*i.bytes<=140737488355328) (hn2:n+m<=1000000000):
 ∃v' w',(Builtin.append_ #[t,t] ty #[v,.slice A m c]).run prog w=.ok v' w'/\bD α e w' M base v' (n+m) (xs++ys)/\w.grownBy w' v.ownBlock/\(v'.ownBlock=v.ownBlock\/v'.ownBlock=some w.heap.size):=
 h.uy hb ht hi hz hs hzs hy hnm hn2
end
def Ce(W:World)(b:Nat):Nat->List Value->Prop->Prop
 |_, [],K=>K
 |j,v::vs,K=>W.cell? ⟨b,j,none⟩=some v/\W.frozen? ⟨b,j,none⟩=false/\Ce W b (j+1) vs K
def At(W:World):List (Nat×List Value)->Prop
 | []=>True
 |(b,vs)::L=>Ce W b 0 vs (At W L)
theorem acM{W:World}{b:Nat}{K:Prop}(hK:K):∀(vs:List Value) (j:Nat),(∀i u,vs[i]?=some u->W.cell? ⟨b,j+i,none⟩=some u/\W.frozen? ⟨b,j+i,none⟩=false)->Ce W b j vs K
 | [],_,_=>hK
 |v::vs,j,h=>⟨by simpa using(h 0 v rfl).1,by simpa using(h 0 v rfl).2,acM hK vs (j+1) fun i u hu=>by
  have:=h (i+1) u (by simpa using hu)
  rwa [show j+(i+1)=j+1+i by omega]at this⟩
structure Fr(w W:World)(L:List (Nat×List Value)):Prop where
 bl:Below w w W
 at_:∀b vs,(b,vs)∈L->∀i u,vs[i]?=some u->W.cell? ⟨b,i,none⟩=some u/\W.frozen? ⟨b,i,none⟩=false
 lt:∀b vs,(b,vs)∈L->b<W.heap.size
 ge:∀b vs,(b,vs)∈L->w.heap.size<=b
section
variable {w W W':World}{L:List (Nat×List Value)}
theorem Zx{W:World}:∀(L:List (Nat×List Value)),(∀b vs,(b,vs)∈L->∀i u,vs[i]?=some u->W.cell? ⟨b,i,none⟩=some u/\W.frozen? ⟨b,i,none⟩=false)->At W L
 | [],_=>bO
 |(b,vs)::L,h=>acM (Zx L fun b' vs' hm=>h b' vs' (bE _ hm)) vs 0 fun i u hu=>by
  have:=h b vs cw i u hu
  rwa [dC]
theorem Fr.Um(h:Fr w W L):At W L:=Zx L h.at_
theorem Fr.nil(w:World):Fr w w []:=⟨bL _ _,fun _ _ h=>by simp at h,fun _ _ h=>by simp at h,fun _ _ h=>by simp at h⟩
theorem Fr.go(h:Fr w W L)(hb:Below W W W'):Fr w W' L:=⟨h.bl.trans (hb.mono h.bl.size),fun b vs hm i u hu=>by have hl:=h.lt b vs hm;have:=h.at_ b vs hm i u hu;exact⟨(hb.cell (p:=⟨b,i,none⟩) hl).trans this.1,(hb.frozen (p:=⟨b,i,none⟩) hl).trans this.2⟩,fun b vs hm=>bX (h.lt b vs hm) hb.size,h.ge⟩
theorem Fr.drew(h:Fr w W L):Fr w W.drew L:=⟨h.bl.drew,h.at_,h.lt,h.ge⟩
theorem Fr.al(h:Fr w W L)(b:Nat)(vs:List Value)(ty:TypeId)(hb:b=W.heap.size):Fr w (W.alloc (.cells vs.toArray ty)) (L++ [(b,vs)]):=by
 subst hb;have hs:=h.bl.size;refine⟨h.bl.alloc hs _,fun j g a i u p=>?_,fun j g a=>?_,fun j g a=>?_⟩
 ·rcases cK.1 a with a|a;·have r:=h.lt _ _ a;have:=h.at_ _ _ a i u p;exact⟨Iz _ this.1,IB _ this.1 this.2⟩
  simp only[bz,fc]at a;obtain⟨rfl,rfl⟩:=a;constructor;·have d:=gH W (.cells g.toArray ty);generalize W.alloc (.cells g.toArray ty)=W2 at d |-;generalize W.heap.size=k at d |-;simp[World.cell?,d,p]
  have d:=gH W (.cells g.toArray ty);generalize W.alloc (.cells g.toArray ty)=W2 at d |-;generalize W.heap.size=k at d |-;simp[World.frozen?,d]
 ·rcases cK.1 a with a|a;·have:=h.lt _ _ a;simp;omega
  simp only[bz,fc]at a;obtain⟨rfl,rfl⟩:=a;simp
 rcases cK.1 a with a|a;·exact h.ge _ _ a
 simp only[bz,fc]at a;obtain⟨rfl,rfl⟩:=a;exact hs
theorem Fr.aiY{M:List Nat}(h:Fr w W L)(hM:b_ M w){b:Nat}(hb:(b,vs)∈L):b_ (b::M) W:=fun k hk=>by
 rcases cD.1 hk with rfl|hk;·exact h.lt _ _ hb
 exact hM.le h.bl.size k hk
end
theorem Sl.moreL{α:Type} [kE α] {w:World}{M:List Nat}{A:Option Addr}{n c:Nat}{xs:List α}(h:Sl α w M A n c xs):∀(L:List Nat),(∀k,k∈L->w.heap.size<=k)->Sl α w (L++M) A n c xs
 | [],_=>h
 |b::L,hL=>(Sl.moreL h L (fun k hk=>hL k (bE _ hk))).more (hL b cw)
theorem op1{w W:World}{L:List (Nat×List Value)}{q:Prop->Prop}{g:Prop}(h:Fr w W L)(k:q g)
 (e:∀g,(At W L->g)=q g:=by(intro g;simp only[df,d_,At,Ce,dC,Nat.reduceAdd,and_imp,true_imp_iff];exact rfl)):g:=by
 rw[<-e g]at k;exact k h.Um
theorem dR{w W:World}{L:List (Nat×List Value)}(h:Fr w W L):∃V,W=V/\Fr w V L:=⟨W,rfl,h⟩
theorem fP{u w W:World}{L:List (Nat×List Value)}(h:Fr u W L)(hb:Below w.heap.size w W:=by exact bel):∃V,W=V/\Below w.heap.size w V/\Fr u V L:=⟨W,rfl,hb,h⟩
section
variable {w W:World}{L:List (Nat×List Value)}
theorem Fr.a(h:Fr w W L)(b:Nat)(vs:List Value)(ty:TypeId)(hb:b=W.heap.size:=by simp):Fr w (W.alloc (.cells vs.toArray ty)) (L++ [(b,vs)]):=h.al b vs ty hb
theorem Fr.a4(h:Fr w W L)(b:Nat)(ty:TypeId)(hb:b=W.heap.size:=by simp):Fr w (W.alloc (.cells #[.bool false,.slice none 0 0,.bool false,.slice none 0 0] ty)) (L++ [(b, [.bool false,.slice none 0 0,.bool false,.slice none 0 0])]):=h.al b _ ty hb
theorem Fr.a0(h:Fr w W L)(b:Nat)(ty:TypeId)(hb:b=W.heap.size:=by simp):Fr w (W.alloc (.cells #[.int .i64 0] ty)) (L++ [(b, [.int .i64 0])]):=h.al b _ ty hb
theorem Fr.nth(h:Fr w W L)(k:Nat){b:Nat}(hm:L[k]?=some (b,vs):=by exact rfl):∀(i:Nat) (u:Value),vs[i]?=some u->W.cell? ⟨b,i,none⟩=some u:=fun i u p=>(h.at_ b vs (bh hm) i u p).1
theorem Fr.mJ(h:Fr w W L)(k:Nat){b:Nat}(hm:L[k]?=some (b,vs):=by exact rfl):b<W.heap.size:=h.lt b vs (bh hm)
theorem Fr.gen(h:Fr w W L)(k:Nat){b:Nat}(hm:L[k]?=some (b,vs):=by exact rfl):w.heap.size<=b:=h.ge b vs (bh hm)
theorem Fr.aQ(h:Fr w W L)(k i:Nat){b:Nat}(hm:L[k]?=some (b,vs):=by exact rfl)(hu:vs[i]?=some u:=by exact rfl):W.cell? ⟨b,i,none⟩=some u:=(h.at_ b vs (bh hm) i u hu).1
theorem Fr.zN(h:Fr w W L)(k i:Nat){b:Nat}(hm:L[k]?=some (b,vs):=by exact rfl)(hu:vs[i]?=some u:=by exact rfl):W.frozen? ⟨b,i,none⟩=false:=(h.at_ b vs (bh hm) i u hu).2
end
section
open Go.Shelf
section
variable {F:Fence}{n:Nat}{P:Program}{Mr:List Nat}{Q:Exit→Act→World→Prop}
def Arm(F:Fence)(n:Nat)(P:Program)(Mr:List Nat)(ops:Array Oper)(Q:Exit->Act->World->Prop)(n0 f:Nat)(listed:Array Bool)(a:Act)(w:World)(i:Nat):Prop:=(Region.ready .any ops listed).contains i=true->i<n0/\wpOpIn F n P ops Q i (fun a' w'=>Keeps Mr w w'/\qh F n P Mr ops Q n0 f (listed.setIfInBounds i true) a' w') a w
end
attribute [irreducible] Arm
end
