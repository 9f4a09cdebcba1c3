/- Lemmas and walks; no statement is proved here. -/
import Derived.ProofKit
import Derived.Deep.Slices
import Derived.SizedLaws
import Derived.Lib.SmallJoins
import Derived.Maps.AppendAt
import Derived.RangeFuncBox
import Derived.Laws.OwnMore
import Derived.Test.YtefnknhjlejalaaGreatDoorM01
set_option linter.unusedVariables false
set_option linter.unusedSimpArgs false
set_option maxRecDepth 20000
set_option maxHeartbeats 6000000
namespace Go.Proofs.YtefnknhjlejalaaGreatDoor
open Go.Proofs.Tryz Go.RowKit
theorem adb{p:Prop}(h:p:=by
 rcases r5 with e5|e5
 ·have:bP v'=bP v:=by unfold bP;rw[e5]
  rw[this];exact Rep.keep q1 ⟨r3.size,fun q hq hm=>r3.block q hq (fun e6=>hm (List.mem_append_left _ (bJ.2 e6.symm)))⟩
 have q3:Rep.rd w (w.heap.size::(bP v++M)) x es:=Rep.more q1 (Nat.le_refl _);have q4:=Rep.keep q3 (w':=w') ⟨r3.size,fun q hq hm=>r3.block q hq (fun e6=>hm (List.mem_cons_of_mem _ (List.mem_append_left _ (bJ.2 e6.symm))))⟩;refine Rep.less q4 (fun q hq=>?_);rcases List.mem_append.1 hq with hq|hq;·rw[bJ,e5]at hq;rw[<-Option.some.inj hq];exact List.mem_cons_self
 exact List.mem_cons_of_mem _ (List.mem_append_right _ hq)):p:=h
theorem aeb{p:Prop}(h:p:=by have h3:=b j u hu;have hlt:=(List.getElem?_eq_some_iff.1 h3).1;have:=h1.1;rw[<-htk,List.getElem?_take_of_lt (by omega),Array.getElem?_toList]at h3;simp[World.cell?,hh,h3]):p:=h
theorem aek{p:Prop}(h:p:=by
 have e2:A.map (fun a:Addr=>a.add (0*sz))=A:=by cases A<;>simp[Addr.add]
 simp only[Result.andThen,sliced,e2,ite_self,Int.toNat_natCast,Nat.sub_zero]):p:=h
theorem aeC{p:Prop}(h:p:=by
 apply Array.ext;·simp[madeCells]
 intro i h1 h2;have e:i%1=0:=Nat.mod_one i;simp[madeCells,Value.cells,e]):p:=h
variable {P:Program}{t ty:TypeId}{f:Field}{off k sz cp m:Nat}{i:TypeInfo}{z u:Value}{vs:List Value}
section
open Go.ChangeShapes Go.WideShapes Go.ChangeAt Go.Deep Go.Joins
def Opens(α:Type) [Rep α] (P:Program)(t:TypeId):Prop:=∀(H:Type) (enc:TypeId×Value->H) (w:World) (held:Bool) (fuel:Nat) (cs:List Value) (d:DataW H) (pl:List MemPlace),DataW.trod enc P w 0 (fun _=>true) held fuel t cs=some (d,pl)->(∀n,n∈d.weights P t->n<=reachBytes)->∃v:α,Rep.rd w [] v cs
theorem wf_i64{n:Int}(h:(Lit.int .i64 n).wf=true):i64 n:=by have:=bounds_i64 h;unfold i64;omega
theorem QU(ht:P.underlying t=some (.int .i64)):Opens Int P t:=by intro H enc w held fuel cs d pl h _;obtain⟨n,rfl,_,hw⟩:=DataW.trod_int ht h;exact⟨n,rfl,wf_i64 hw⟩
theorem IK{α:Type}{p:Nat->α->Prop}:∀(n:Nat),(∀i,i<n->∃x,p i x)->∃xs:List α,xs.length=n/\∀i x,xs[i]?=some x->p i x
 |0,_=>⟨[],rfl,by simp⟩
 |n+1,h=>by
  obtain⟨xs,hl,hx⟩:=IK n (fun i hi=>h i (by omega));obtain⟨y,hy⟩:=h n (by omega);refine⟨xs++ [y],by simp[hl],fun i x hi=>?_⟩;by_cases g:i<n;·rw[List.getElem?_append_left (by omega)]at hi;exact hx i x hi
  have hi2:=hi;have:i<(xs++ [y]).length:=(List.getElem?_eq_some_iff.1 hi).1;obtain rfl:i=n:=by simp[hl]at this;omega
  rw[List.getElem?_append_right (by omega),hl]at hi;simp at hi;rw[<-hi];exact hy
theorem weightsAll_mem{H:Type}{P:Program}{e:TypeId}{d:DataW H}{n:Nat}(hn:n∈d.weights P e):∀(ds:List (DataW H)),d∈ds->n∈DataW.weightsAll P e ds
 | [],h=>by simp at h
 |x::r,h=>by
  simp only[DataW.weightsAll,List.mem_append];rcases List.mem_cons.1 h with rfl|h;·exact .inl hn
  exact .inr (weightsAll_mem hn r h)
theorem iI{α:Type} [kE α] {e:TypeId}(ht:P.underlying t=some (.slice e))(hc:P.cellsOf e=Rep.sz α)(hb:1<=P.bytesOf e)(ho:Opens α P e):Opens (List α) P t:=by
 intro H enc w held fuel cs d pl h hw;have hpos:=kE.pos (α:=α);rcases open_slice ht h with⟨rfl,_⟩|⟨a,len,cap,m,n,D,Pl,rfl,_,hl,hm,hmm,hx,he⟩;·exact⟨[],none,0,0,rfl,rfl,Nat.le_refl _,by simp[jG],by omega,.inl rfl⟩
 obtain⟨rfl,rfl⟩:=Prod.mk.inj hx;simp only[if_true]at hmm;subst hmm;have hw1:m*P.bytesOf e<=reachBytes:=by
  have:=hw ((((List.range len).map D).length+((List.range (m-len)).map fun j=>D (len+j)).length)*P.bytesOf e) (by simp[DataW.weights,ht]);simp only[List.length_map,List.length_range]at this
  rwa [show len+(m-len)=m by omega]at this
 have hw2:m<=reachBytes:=Nat.le_trans (by simpa using Nat.mul_le_mul_left m hb) hw1;have hr:reachBytes<=140737488355328:=by decide
 have hmx:maxLen=9223372036854775807:=by decide
 obtain⟨xs,hlen,hxs⟩:=IK (α:=α) (p:=fun i x=>∃es,w.cells? 0 (a.add (i*Rep.sz α)) (Rep.sz α)=some es/\Rep.rd w [] x es) len (fun i hi=>by obtain⟨cs',h1,h2⟩:=he i (by omega);rw[hc]at h1;obtain⟨v,hv⟩:=ho H enc w held n cs' (D i) (Pl i) h2 (fun k hk=>hw k (by simp only[DataW.weights,ht,List.mem_cons,List.mem_append];exact .inr (.inl (weightsAll_mem hk _ (List.mem_map.2 ⟨i,List.mem_range.2 hi,rfl⟩)))));exact⟨v,cs',h1,hv⟩);refine⟨xs,some a,len,m,rfl,hlen,hl,by unfold jG;omega,by omega,?_⟩;by_cases h0:len=0;·left;subst h0;simpa using hlen
 right;obtain⟨b,o,spot⟩:=a;have hspot:spot=none:=by obtain⟨es,h1,-⟩:=hxs 0 (xs[0]'(by omega)) (List.getElem?_eq_getElem (by omega));obtain⟨_,hl1,h2⟩:=World.cells?_some h1;have h3:=h2 0 hpos;rw[List.getElem?_eq_getElem (by omega)]at h3;simpa[Addr.add]using World.cell?_spot h3
 subst hspot;refine⟨b,o,rfl,fun k x hk=>?_⟩;obtain⟨es,h1,h2⟩:=hxs k x hk;refine⟨es,h2,by simp,fun j u hu=>?_⟩;obtain⟨_,hl1,h3⟩:=World.cells?_some h1;have:=h3 j (by rw[<-hl1];exact(List.getElem?_eq_some_iff.1 hu).1);rw[hu,Go.WideShapes.add_plain,Go.WideShapes.add_plain]at this;exact this
instance {α β:Type} [Rep α] [Rep β]:Rep (α×β) where
 sz:=Rep.sz α+Rep.sz β
 rd w M x cs:=∃ds es,cs=ds++es/\Rep.rd w M x.1 ds/\Rep.rd w M x.2 es
 len:=by rintro w M x cs ⟨ds,es,rfl,h1,h2⟩;rw[List.length_append,Rep.len h1,Rep.len h2]
 keep:=by rintro w w' M x cs ⟨ds,es,rfl,h1,h2⟩ k;exact⟨ds,es,rfl,Rep.keep h1 k,Rep.keep h2 k⟩
 less:=by rintro w M M' x cs ⟨ds,es,rfl,h1,h2⟩ k;exact⟨ds,es,rfl,Rep.less h1 k,Rep.less h2 k⟩
 more:=by rintro w M x cs b ⟨ds,es,rfl,h1,h2⟩ k;exact⟨ds,es,rfl,Rep.more h1 k,Rep.more h2 k⟩
instance {α β:Type} [kE α] [Rep β]:kE (α×β):=⟨Nat.lt_of_lt_of_le (kE.pos (α:=α)) (Nat.le_add_right _ _)⟩
instance:kE Bool:=⟨by decide⟩
instance:Rep ByteArray where
 sz:=1
 rd _ _ n cs:=cs= [.string n]
 len h:=by rw[h];rfl
 keep h _:=h
 less h _:=h
 more h _:=h
instance:kE ByteArray:=⟨by decide⟩
theorem qP(ht:P.underlying t=some .bool):Opens Bool P t:=by intro H enc w held fuel cs d pl h _;obtain⟨b,rfl,_⟩:=DataW.trod_bool ht h;exact⟨b,rfl⟩
def uq(α:Type) [Rep α] (P:Program)(fs:List Field)(off:Nat):Prop:=
 ∀(H:Type) (enc:TypeId×Value->H) (w:World) (held:Bool) (n:Nat) (cs:List Value) (xs:List (DataW H×List MemPlace)),
  xs.length=fs.length->cs.length=off+Rep.sz α->
  (∀(i:Nat) (f:Field),fs[i]?=some f->DataW.trod enc P w 0 (fun _=>true) held n f.type ((cs.drop f.offset).take (P.cellsOf f.type))=xs[i]?)->
  (∀(i:Nat) (f:Field) (y:DataW H×List MemPlace),fs[i]?=some f->xs[i]?=some y->∀k,k∈y.1.weights P f.type->k<=reachBytes)->
  ∃v:α,Rep.rd w [] v (cs.drop off)
theorem iL{α:Type} [Rep α] (ho:f.offset=off)(hc:P.cellsOf f.type=Rep.sz α)(h:Opens α P f.type):uq α P [f] off:=by
 intro H enc w held n cs xs hl hcs hf hw
 match xs,hl with
 | [x],_=>have h0:=hf 0 f rfl;simp only[List.getElem?_cons_zero]at h0;rw[ho,hc,List.take_of_length_le (by rw[List.length_drop];omega)]at h0;exact h H enc w held n _ x.1 x.2 h0 (hw 0 f x rfl rfl)
theorem aX{α β:Type} [Rep α] [Rep β] {fs:List Field}(ho:f.offset=off)(hc:P.cellsOf f.type=Rep.sz α)(h:Opens α P f.type)(hr:uq β P fs (off+Rep.sz α)):uq (α×β) P (f::fs) off:=by
 intro H enc w held n cs xs hl hcs hf hw
 match xs,hl with
 |x::ys,hl=>have h0:=hf 0 f rfl;simp only[List.getElem?_cons_zero]at h0;rw[ho,hc]at h0;obtain⟨a,ha⟩:=h H enc w held n _ x.1 x.2 h0 (hw 0 f x rfl rfl);have hcs':cs.length=off+(Rep.sz α+Rep.sz β):=hcs;obtain⟨b,hb⟩:=hr H enc w held n cs ys (by simpa using hl) (by omega) (fun i g hg=>by simpa using hf (i+1) g (by simpa using hg)) (fun i g y hg hy=>hw (i+1) g y (by simpa using hg) (by simpa using hy));refine⟨(a,b),(cs.drop off).take (Rep.sz α),cs.drop (off+Rep.sz α),?_,ha,hb⟩;rw[<-List.drop_drop,List.take_append_drop]
theorem fG{α:Type} [Rep α] {fs:Array Field}(hs:P.underlying t=some (.struct fs))(hC:P.cellsOf t=Rep.sz α)(h:uq α P fs.toList 0):Opens α P t:=by intro H enc w held fuel cs d pl hd hw;obtain⟨xs,n,_,hx,hl,hlen,hf⟩:=DataW.trod_struct hs hd;obtain⟨rfl,rfl⟩:=Prod.mk.inj hx;obtain⟨v,hv⟩:=h H enc w held n cs xs (by simpa using hlen) (by rw[Nat.zero_add,<-hC];exact hl) (fun i f hi=>hf i f (by simpa using hi)) (fun i f y hi hy k hk=>hw k (by simp only[DataW.weights,hs];exact DataW.weights_mem_each (j:=i) (by rw[List.getElem?_map,hi];rfl) (by rw[List.getElem?_map,hy];rfl) k hk));exact⟨v,by simpa using hv⟩
end
theorem qo:(prog.info? 3).map (fun i=>(i.zero,i.size,i.bytes))=some (some (.int .i64 0),1,8):=by kernel_rfl
theorem NI{w:World}{base:Nat}{v:Value}{n:Nat}{xs:List Int}(h:w.ownsRow base 3 1 v n (xs.map (Value.int .i64)))(hb:base<=w.heap.size)(hn:n<=1000000000)(g:Nat)(x:Int)
 (hc:w.cell? ⟨g,0,none⟩=some (.int .i64 x)):
 ∃v' w',(Builtin.append_ #[26,26] 26 #[v,.slice (some ⟨g,0,none⟩) 1 1]).run prog w=.ok v' w'/\w'.ownsRow base 3 1 v' (n+1) ((xs++ [x]).map (Value.int .i64))/\w.grownBy w' v.ownBlock/\(v'.ownBlock=v.ownBlock\/v'.ownBlock=some w.heap.size)/\∃gg cc,v'=.slice (some ⟨gg,0,none⟩) (n+1) cc:=by
 obtain⟨i0,hi,hz0,hz1,hz2⟩:=info_parts qo;obtain⟨v',w',h1,h2,h3,_,h5⟩:=run_append_own_at (P:=prog) w base 26 26 3 i0 (.int .i64 0) 1 8 underlying26 hi hz0 hz1 hz2 rfl (by decide) v n _ h ⟨g,0,none⟩ 1 1 [.int .i64 x] rfl (by intro j u hu;match j,hu with|0,hu=>cases hu;exact hc) (by simp[Value.oneCell']) (by unfold maxLen;omega) (by omega) hb;rw[List.map_append];exact⟨v',w',h1,h2,h3,h5,ownsRow_succ h2⟩
theorem Sl.nil0{α:Type} [Rep α] {w:World}{M:List Nat}:Sl α w M none 0 0 []:=⟨rfl,Nat.le_refl _,by simp[jG],by omega,.inl rfl⟩
section
variable {α:Type} [kE α] {M:List Nat}{w:World}{A:Option Addr}{n c:Nat}{xs:List α}
theorem Sl.nY(h:Sl α w M A n c xs)(hk:k<=n):Sl α w M A k c (xs.take k):=by
 refine⟨by simp[h.len];omega,Nat.le_trans hk h.cap,h.room,Nat.le_trans hk h.small,?_⟩;rcases h.at_ with g|⟨b,o,rfl,g⟩;·left;simp[g]
 right;refine⟨b,o,rfl,fun j x hx=>g j x ?_⟩;have:j<k:=by have:=(List.getElem?_eq_some_iff.1 hx).1;simp at this;omega
 rwa [List.getElem?_take_of_lt this]at hx
theorem Sl.cutFrom(h:Sl α w M A n c xs)(hk:k<=n){A':Option Addr}(hA:k<n->∀b o,A=some ⟨b,o,none⟩->A'=some ⟨b,o+k*Rep.sz α,none⟩):Sl α w M A' (n-k) (c-k) (xs.drop k):=by
 have h1:=h.len;have h2:=h.cap;refine⟨by simp[h.len],by omega,by have:=h.room;unfold jG at*;omega,by have:=h.small;omega,?_⟩;by_cases hkn:k=n;·left;exact List.drop_of_length_le (by omega)
 rcases h.at_ with g|⟨b,o,rfl,g⟩;·left;simp[g]
 right;refine⟨b,o+k*Rep.sz α,hA (by omega) b o rfl,fun j x hx=>?_⟩;rw[List.getElem?_drop]at hx;obtain⟨es,e1,e2⟩:=g _ x hx;exact⟨es,e1,by rwa [show o+(k+j)*Rep.sz α=o+k*Rep.sz α+j*Rep.sz α by rw[Nat.add_mul,Nat.add_assoc]]at e2⟩
end
theorem yQ{w:World}(base:Nat)(t ty e:TypeId)(i:TypeInfo)(size c:Nat)(ht:prog.underlying t=some (.slice e))(hi:prog.info? e=some i)
 (v:Value) (n:Nat) (xs:List Value) (hown:w.ownsRow base e size v n xs):
 (Builtin.append_ #[t,t] ty #[v,.slice none 0 c]).run prog w=.ok v w:=by
 rcases hown.2 with⟨rfl,rfl⟩|⟨g,cap,cur,rfl,_,_,hnc,_⟩;·simp[Builtin.append_,run_underlying ht,sizeOf,typeInfo,hi,Builtin.lenOf,Builtin.firstCells]
 ·simp[Builtin.append_,run_underlying ht,sizeOf,typeInfo,hi,Builtin.lenOf,Builtin.firstCells,hnc,storeCells]
theorem nZ{e:TypeId}(ht:prog.underlying t=some (.slice e))(hz:∀w,(sizeOf e).run prog w=.ok sz w)(A:Option Addr){n:Nat}(hk:k<=n)(hn:n<=cp)(w:World):
 (Instr.sliceAt t (.slice A n cp) none (some (.int .i64 (k:Int))) none).run prog w=.ok (.slice A k cp) w:=by
 have he:prog.elem t=e:=by simp[Program.elem,ht]
 have ht':prog.underlying t=some (.slice (prog.elem t)):=by rw[he];exact ht
 rw[run_sliceAt_slice w t _ _ _ _ ht',run_slice_h w t A n cp ht' .i64 (k:Int) (by omega) (by omega),he,hz];exact aek
def wZ(A:Option Addr)(cp k sz:Nat):Option Addr:=if cp=k then A else A.map (fun a=>a.add (k*sz))
theorem NJ{e:TypeId}(ht:prog.underlying t=some (.slice e))(hz:∀w,(sizeOf e).run prog w=.ok sz w)(A:Option Addr){n:Nat}(hk:k<=n)(w:World):
 (Instr.sliceAt t (.slice A n cp) (some (.int .i64 (k:Int))) none none).run prog w=.ok (.slice (wZ A cp k sz) (n-k) (cp-k)) w:=by
 have he:prog.elem t=e:=by simp[Program.elem,ht]
 have ht':prog.underlying t=some (.slice (prog.elem t)):=by rw[he];exact ht
 rw[run_sliceAt_slice w t _ _ _ _ ht',run_slice_l w t A n cp ht' .i64 (k:Int) (by omega) (by omega),he,hz];simp only[Result.andThen,sliced,Int.toNat_natCast,wZ]
theorem Sl.cut{α:Type} [kE α] {M:List Nat}{w:World}{A:Option Addr}{n c:Nat}{xs:List α}(h:Sl α w M A n c xs)(hk:k<=n)(hsz:Rep.sz α=sz):Sl α w M (wZ A c k sz) (n-k) (c-k) (xs.drop k):=by subst hsz;refine h.cutFrom hk fun hlt b o e=>?_;have:=h.cap;rw[wZ,if_neg (by omega),e,Option.map_some,Go.WideShapes.add_plain]
def b_(M:List Nat)(w:World):Prop:=∀k,k∈M->k<w.heap.size
theorem b_.nil(w:World):b_ [] w:=fun _ h=>by cases h
theorem b_.le{M:List Nat}{w w':World}(h:b_ M w)(hs:w.heap.size<=w'.heap.size):b_ M w':=fun k hk=>Nat.lt_of_lt_of_le (h k hk) hs
theorem Sl.go{α:Type} [Rep α] {M:List Nat}{w w':World}{A:Option Addr}{n c:Nat}{xs:List α}(h:Sl α w M A n c xs)(hb:Below w.heap.size w w'):Sl α w' M A n c xs:=h.keep (Keeps.of_below hb M)
def Row(w:World)(b:Nat)(l:List Int):Prop:=w.heap[b]?=some (.cells (l.map (Value.int .i64)).toArray 3 (0,0))
section
variable {w w':World}{b:Nat}{l:List Int}
theorem Row.lt(h:Row w b l):b<w.heap.size:=(Array.getElem?_eq_some_iff.1 h).1
theorem Row.cell(h:Row w b l){k:Nat}{x:Int}(hk:l[k]?=some x):w.cell? ⟨b,k,none⟩=some (.int .i64 x):=by unfold Row at h;simp[World.cell?,h,hk]
theorem Row.free(h:Row w b l)(k:Nat):w.frozen? ⟨b,k,none⟩=false:=by unfold Row at h;simp[World.frozen?,h]
theorem Row.put(h:Row w b l)(k:Nat)(x:Int):Row (w.setCell ⟨b,k,none⟩ (.int .i64 x)) b (l.set k x):=by
 unfold Row at*
 simp only[World.setCell,Array.getElem?_modify,if_true];rw[h];simp only[Option.map_some,Option.isSome_none,Bool.false_eq_true,if_false,List.setIfInBounds_toArray,List.map_set]
theorem Row.drew(h:Row w b l):Row w.drew b l:=h
theorem Row.go(h:Row w b l){s:Nat}(hb:Below s w w')(hs:b<s):Row w' b l:=by unfold Row at*;rw[hb.block b hs];exact h
theorem Row.uw(h:Row w b l){g:Nat}(hg:b≠g)(k:Nat)(u:Value):Row (w.setCell ⟨g,k,none⟩ u) b l:=by
 unfold Row at*
 rw[Below.heap_setCell w _ _ b hg];exact h
theorem Row.al(h:Row w b l)(o:Obj):Row (w.alloc o) b l:=by have hl:=h.lt;unfold Row at*;rw[Below.heap_alloc w o b hl];exact h
theorem Row.sl(h:Row w b l){M:List Nat}(hM:b∉M){n:Nat}(hn:l.length=n)(hs:n<=1000000)(hi:∀x,x∈l->i64 x):Sl Int w M (some ⟨b,0,none⟩) n n l:=by
 refine⟨hn,Nat.le_refl _,by unfold jG;omega,by omega,.inr ⟨b,0,rfl,fun k x hk=>⟨_,⟨rfl,hi x (List.mem_of_getElem? hk)⟩,hM,fun j u hu=>?_⟩⟩⟩
 match j,hu with
 |0,hu=>cases hu;simpa[show Rep.sz Int=1 from rfl]using h.cell hk
end
theorem QX(N:Nat):madeCells (Value.int .i64 0).cells (N*1)=((List.replicate N (0:Int)).map (Value.int .i64)).toArray:=by exact aeC
theorem qR(ht:prog.underlying t=some (.slice 3))(N:Nat)(hN:N<=1000000)(w:World):(Instr.makeSlice t (.int .i64 (N:Int)) (.int .i64 (N:Int))).run prog w=.ok (.slice (some ⟨w.heap.size,0,none⟩) N N) (w.alloc (.cells ((List.replicate N (0:Int)).map (Value.int .i64)).toArray 3)):=by obtain⟨i0,hi,hz0,hz1,hz2⟩:=info_parts qo;have:=run_make (P:=prog) w t 3 i0 (.int .i64 0) ht hi hz0 .i64 .i64 (N:Int) (N:Int) (by omega) (Int.le_refl _) (by rw[hz2];omega) (by omega);rw[this,hz1];simp only[Int.toNat_natCast,QX]
theorem Row.new(N:Nat)(w:World):Row (w.alloc (.cells ((List.replicate N (0:Int)).map (Value.int .i64)).toArray 3)) w.heap.size (List.replicate N 0):=heap_alloc_new w _
class kJ(α:Type) extends kE α where
 one:∀{w M x cs},rd w M x cs->∀u,u∈cs->u.oneCell'=true
instance:kJ Int:=⟨by rintro w M x cs ⟨rfl,_⟩ u hu;simp at hu;subst hu;rfl⟩
instance:kJ Bool:=⟨by rintro w M x cs h u hu;have h:cs=_:=h;subst h;simp at hu;subst hu;rfl⟩
instance {α:Type} [kE α]:kJ (List α):=⟨by rintro w M x cs ⟨A,n,c,rfl,_⟩ u hu;simp at hu;subst hu;rfl⟩
instance {α β:Type} [kJ α] [kJ β]:kJ (α×β):=⟨by
 rintro w M x cs ⟨ds,es,rfl,h1,h2⟩ u hu;rcases List.mem_append.1 hu with hu|hu;·exact kJ.one h1 u hu
 exact kJ.one h2 u hu⟩
theorem Sl.row{α:Type} [kJ α] {w:World}{M:List Nat}{b o n c:Nat}{ys:List α}(h:Sl α w M (some ⟨b,o,none⟩) n c ys):
 ∃cs:List Value,cs.length=n*Rep.sz α/\(∀j u,cs[j]?=some u->w.cell? ⟨b,o+j,none⟩=some u)/\(∀u,u∈cs->u.oneCell'=true)/\∀k y,ys[k]?=some y->∃es,Rep.rd w M y es/\∀j u,es[j]?=some u->cs[k*Rep.sz α+j]?=some u:=by
 have hp:=kE.pos (α:=α);have key:∀k y,ys[k]?=some y->∃es,Rep.rd w M y es/\∀j u,es[j]?=some u->w.cell? ⟨b,o+(k*Rep.sz α+j),none⟩=some u:=by
  intro k y hy;rcases h.at_ with g|⟨b',o',e,g⟩;·rw[g]at hy;simp at hy
  obtain⟨es,h1,h2⟩:=g k y hy;cases e;exact⟨es,h1,fun j u hu=>by have:=h2.2 j u hu;rwa [Nat.add_assoc]at this⟩
 have inside:∀j,j<n*Rep.sz α->∃u,w.cell? ⟨b,o+j,none⟩=some u/\u.oneCell'=true:=by
  intro j hj;have hk:j/Rep.sz α<ys.length:=by rw[h.len];exact(Nat.div_lt_iff_lt_mul hp).2 hj
  obtain⟨es,h1,h2⟩:=key _ _ (List.getElem?_eq_getElem hk);have hm:j%Rep.sz α<es.length:=by rw[Rep.len h1];exact Nat.mod_lt _ hp
  refine⟨es[j%Rep.sz α],?_,kJ.one h1 _ (List.getElem_mem hm)⟩;have:=h2 _ _ (List.getElem?_eq_getElem hm)
  rwa [Nat.mul_comm,Nat.div_add_mod]at this
 have at_:∀j,j<n*Rep.sz α->∀u,w.cell? ⟨b,o+j,none⟩=some u->((List.range (n*Rep.sz α)).map (fun j=>(w.cell? ⟨b,o+j,none⟩).getD undef))[j]?=some u:=by intro j hj u hu;simp[hj,hu]
 refine⟨(List.range (n*Rep.sz α)).map (fun j=>(w.cell? ⟨b,o+j,none⟩).getD undef),by simp,?_,?_,?_⟩
 ·intro j u hu;have hj:j<n*Rep.sz α:=by simpa using(List.getElem?_eq_some_iff.1 hu).1
  obtain⟨v,hv,_⟩:=inside j hj;rw[at_ j hj v hv]at hu;obtain rfl:=Option.some.inj hu;exact hv
 ·intro u hu;obtain⟨j,hj,rfl⟩:=List.mem_map.1 hu;obtain⟨v,hv,h1⟩:=inside j (by simpa using hj);rw[hv];exact h1
 ·intro k y hy;obtain⟨es,h1,h2⟩:=key k y hy;refine⟨es,h1,fun j u hu=>at_ _ ?_ u (h2 j u hu)⟩;have hj:j<Rep.sz α:=by rw[<-Rep.len h1];exact(List.getElem?_eq_some_iff.1 hu).1
  have hk:k<n:=by rw[<-h.len];exact(List.getElem?_eq_some_iff.1 hy).1
  have:(k+1)*Rep.sz α<=n*Rep.sz α:=Nat.mul_le_mul_right _ hk;rw[Nat.add_mul,Nat.one_mul]at this;omega
def bP(v:Value):List Nat:=v.ownBlock.toList
theorem bJ{v:Value}:k∈bP v↔v.ownBlock=some k:=by unfold bP;cases v.ownBlock<;>simp[eq_comm]
structure bD(α:Type) [kJ α] (e:TypeId)(w:World)(M:List Nat)(base:Nat)(v:Value)(n:Nat)(xs:List α):Prop where
 len:xs.length=n
 ex:∃cs:List Value,w.ownsRow base e (Rep.sz α) v n cs/\∀k x,xs[k]?=some x->∃es,Rep.rd w (bP v++M) x es/\∀j u,es[j]?=some u->cs[k*Rep.sz α+j]?=some u
section
variable {α:Type} [kJ α] {e:TypeId}{w w':World}{M:List Nat}{base:Nat}{v:Value}{n:Nat}{xs ys:List α}
theorem qp{size:Nat}{cs:List Value}(h:w.ownsRow base e size v n cs)(hb:∀k,v.ownBlock=some k->k<w.heap.size->w'.heap[k]?=w.heap[k]?):w'.ownsRow base e size v n cs:=by
 refine⟨h.1,?_⟩;rcases h.2 with g|⟨g,cap,cur,rfl,h1,h2,h3⟩;·exact .inl g
 exact .inr ⟨g,cap,cur,rfl,h1,(hb g rfl (Array.getElem?_eq_some_iff.1 h2).1).trans h2,h3⟩
theorem bD.go(h:bD α e w M base v n xs)(hb:Below w.heap.size w w'):bD α e w' M base v n xs:=by obtain⟨cs,h1,h2⟩:=h.ex;refine⟨h.len,cs,qp h1 (fun k _ hk=>hb.block k hk),fun k x hx=>?_⟩;obtain⟨es,a,b⟩:=h2 k x hx;exact⟨es,Rep.keep a (Keeps.of_below hb _),b⟩
theorem bD.lt(h:bD α e w M base v n xs){k:Nat}(hk:v.ownBlock=some k):base<=k/\k<w.heap.size:=by obtain⟨cs,h1,-⟩:=h.ex;exact h1.lt k hk
theorem bD.nil(w:World)(M:List Nat)(base:Nat):bD α e w M base (.slice none 0 0) 0 []:=⟨rfl, [],World.ownsRow_nil _ _ _ _,fun k x hx=>by simp at hx⟩
theorem bD.lit(w:World)(M:List Nat){base:Nat}(hb:base<=w.heap.size):bD α e (w.alloc (.cells #[] e)) M base (.slice (some ⟨w.heap.size,0,none⟩) 0 0) 0 []:=⟨rfl, [],by simpa using World.ownsRow_lit (base:=base) (size:=Rep.sz α) (e:=e) w #[] 0 hb (by simp[maxLen]) (by simp),fun k x hx=>by simp at hx⟩
theorem bD.sl(h:bD α e w M base v n xs)(hn:n<=1000000000)(hd:∀k,k∈M->k<base):∃A c,v=.slice A n c/\Sl α w M A n c xs:=by
 obtain⟨cs,h1,h2⟩:=h.ex;rcases h1.2 with⟨rfl,rfl⟩|⟨g,cap,cur,rfl,hb,hh,hnc,hcm,hsz,htk⟩;·have:xs= []:=List.length_eq_zero_iff.1 h.len;subst this;exact⟨none,0,rfl,Sl.nil0⟩
 refine⟨_,cap,rfl,h.len,hnc,by simpa[jG,maxLen]using hcm,by omega,.inr ⟨g,0,rfl,fun k x hk=>?_⟩⟩;obtain⟨es,a,b⟩:=h2 k x hk;refine⟨es,Rep.less a (fun q hq=>List.mem_append_right _ hq),fun hm=>by have:=hd g hm;omega,fun j u hu=>?_⟩;exact aeb
theorem bD.uy(h:bD α e w M base v n xs)(hb:base<=w.heap.size)(ht:prog.underlying t=some (.slice e))(hi:prog.info? e=some i)(hz:i.zero=some z)(hs:i.size=Rep.sz α)(hzs:z.cells.size=Rep.sz α)
 {A:Option Addr}{c:Nat}(hy:Sl α w (bP v++M) A m c ys) (hnm:(n+m)*i.bytes<=140737488355328) (hn2:n+m<=1000000000):
 ∃v' w',(Builtin.append_ #[t,t] ty #[v,.slice A m c]).run prog w=.ok v' w'/\bD α e w' M base v' (n+m) (xs++ys)/\w.grownBy w' v.ownBlock/\(v'.ownBlock=v.ownBlock\/v'.ownBlock=some w.heap.size):=by
 obtain⟨cs,h1,h2⟩:=h.ex;have hp:=kE.pos (α:=α);by_cases hA:∃a,A=some a
 ·obtain⟨a,rfl⟩:=hA;by_cases hm:m=0;·subst hm;have hys:ys= []:=List.length_eq_zero_iff.1 hy.len;subst hys;obtain⟨v',w',r1,r2,r3,_,r5⟩:=run_append_own_at (P:=prog) w base t ty e i z (Rep.sz α) i.bytes ht hi hz hs rfl hzs hp v n cs h1 a 0 c [] (by simp) (by simp) (by simp) (by unfold maxLen;omega) (by omega) hb;refine⟨v',w',r1,?_,r3,r5⟩;rw[List.append_nil]at r2 |-;refine⟨h.len,cs,r2,fun k x hx=>?_⟩;obtain⟨es,q1,q2⟩:=h2 k x hx;refine⟨es,?_,q2⟩;exact adb
  have hne:ys≠ []:=fun e0=>hm (by rw[<-hy.len,e0];rfl);obtain⟨b,o,rfl⟩:∃b o,a=⟨b,o,none⟩:=by
   rcases hy.at_ with g|⟨b,o,e0,_⟩;·exact absurd g hne
   exact⟨b,o,Option.some.inj e0⟩
  obtain⟨ns,n1,n2,n3,n4⟩:=hy.row;obtain⟨v',w',r1,r2,r3,_,r5⟩:=run_append_own_at (P:=prog) w base t ty e i z (Rep.sz α) i.bytes ht hi hz hs rfl hzs hp v n cs h1 ⟨b,o,none⟩ m c ns n1 (fun j u hu=>by rw[Go.WideShapes.add_plain];exact n2 j u hu) n3 (by unfold maxLen;omega) hnm hb;refine⟨v',w',r1,?_,r3,r5⟩;have turn:∀{x:α}{es:List Value},Rep.rd w (bP v++M) x es->Rep.rd w' (bP v'++M) x es:=by intro x es q1;exact adb
  refine⟨by rw[List.length_append,h.len,hy.len],cs++ns,r2,fun k x hx=>?_⟩;have hl:=h1.1;rcases Nat.lt_or_ge k n with hk|hk;·rw[List.getElem?_append_left (by rw[h.len];exact hk)]at hx;obtain⟨es,q1,q2⟩:=h2 k x hx;refine⟨es,turn q1,fun j u hu=>?_⟩;have:=q2 j u hu;rw[List.getElem?_append_left (List.getElem?_eq_some_iff.1 this).1];exact this
  rw[List.getElem?_append_right (by rw[h.len];exact hk),h.len]at hx;obtain⟨es,q1,q2⟩:=n4 _ x hx;refine⟨es,turn q1,fun j u hu=>?_⟩;have:=q2 j u hu;rw[List.getElem?_append_right (by rw[hl];have:=Nat.mul_le_mul_right (Rep.sz α) hk;omega),hl]
  rwa [show k*Rep.sz α+j-n*Rep.sz α=(k-n)*Rep.sz α+j by rw[Nat.sub_mul];have:=Nat.mul_le_mul_right (Rep.sz α) hk;omega]
 ·have hA':A=none:=by cases A with|none=>rfl|some a=>exact absurd ⟨a,rfl⟩ hA
  subst hA';have hys:ys= []:=by rcases hy.at_ with g|⟨b,o,e0,_⟩;exact g;cases e0
  subst hys;obtain rfl:m=0:=by have:=hy.len;simpa using this.symm
  exact⟨v,w,yQ base _ _ e i (Rep.sz α) c ht hi v n _ h1,by simpa using h,⟨rfl,rfl,rfl,Nat.le_refl _,fun _ _ _=>rfl⟩,.inl rfl⟩
theorem bD.append(h:bD α e w M base v n xs)(hb:base<=w.heap.size)(ht:prog.underlying t=some (.slice e))(hi:prog.info? e=some i)(hz:i.zero=some z)(hs:i.size=Rep.sz α)(hzs:z.cells.size=Rep.sz α)
 (_hM:∀k,k∈M->k<base) {A:Option Addr}{c:Nat}(hy:Sl α w (bP v++M) A m c ys) (hnm:(n+m)*i.bytes<=140737488355328) (hn2:n+m<=1000000000):
 ∃v' w',(Builtin.append_ #[t,t] ty #[v,.slice A m c]).run prog w=.ok v' w'/\bD α e w' M base v' (n+m) (xs++ys)/\w.grownBy w' v.ownBlock/\(v'.ownBlock=v.ownBlock\/v'.ownBlock=some w.heap.size):=
 h.uy hb ht hi hz hs hzs hy hnm hn2
end
def Ce(W:World)(b:Nat):Nat->List Value->Prop->Prop
 |_, [],K=>K
 |j,v::vs,K=>W.cell? ⟨b,j,none⟩=some v/\W.frozen? ⟨b,j,none⟩=false/\Ce W b (j+1) vs K
def At(W:World):List (Nat×List Value)->Prop
 | []=>True
 |(b,vs)::L=>Ce W b 0 vs (At W L)
theorem AU{W:World}{b:Nat}{K:Prop}(hK:K):∀(vs:List Value) (j:Nat),(∀i u,vs[i]?=some u->W.cell? ⟨b,j+i,none⟩=some u/\W.frozen? ⟨b,j+i,none⟩=false)->Ce W b j vs K
 | [],_,_=>hK
 |v::vs,j,h=>⟨by simpa using(h 0 v rfl).1,by simpa using(h 0 v rfl).2,AU hK vs (j+1) fun i u hu=>by
  have:=h (i+1) u (by simpa using hu)
  rwa [show j+(i+1)=j+1+i by omega]at this⟩
structure Fr(w W:World)(L:List (Nat×List Value)):Prop where
 bl:Below w.heap.size w W
 at_:∀b vs,(b,vs)∈L->∀i u,vs[i]?=some u->W.cell? ⟨b,i,none⟩=some u/\W.frozen? ⟨b,i,none⟩=false
 lt:∀b vs,(b,vs)∈L->b<W.heap.size
 ge:∀b vs,(b,vs)∈L->w.heap.size<=b
section
variable {w W W':World}{L:List (Nat×List Value)}
theorem Zx{W:World}:∀(L:List (Nat×List Value)),(∀b vs,(b,vs)∈L->∀i u,vs[i]?=some u->W.cell? ⟨b,i,none⟩=some u/\W.frozen? ⟨b,i,none⟩=false)->At W L
 | [],_=>trivial
 |(b,vs)::L,h=>AU (Zx L fun b' vs' hm=>h b' vs' (List.mem_cons_of_mem _ hm)) vs 0 fun i u hu=>by
  have:=h b vs List.mem_cons_self i u hu
  rwa [Nat.zero_add]
theorem Fr.Um(h:Fr w W L):At W L:=Zx L h.at_
theorem Fr.nil(w:World):Fr w w []:=⟨Below.refl _ _,fun _ _ h=>by simp at h,fun _ _ h=>by simp at h,fun _ _ h=>by simp at h⟩
theorem Fr.go(h:Fr w W L)(hb:Below W.heap.size W W'):Fr w W' L:=⟨h.bl.trans (hb.mono h.bl.size),fun b vs hm i u hu=>by have hl:=h.lt b vs hm;have:=h.at_ b vs hm i u hu;exact⟨(hb.cell (p:=⟨b,i,none⟩) hl).trans this.1,(hb.frozen (p:=⟨b,i,none⟩) hl).trans this.2⟩,fun b vs hm=>Nat.lt_of_lt_of_le (h.lt b vs hm) hb.size,h.ge⟩
theorem Fr.drew(h:Fr w W L):Fr w W.drew L:=⟨h.bl.drew,h.at_,h.lt,h.ge⟩
theorem Fr.al(h:Fr w W L)(b:Nat)(vs:List Value)(ty:TypeId)(hb:b=W.heap.size):Fr w (W.alloc (.cells vs.toArray ty)) (L++ [(b,vs)]):=by
 subst hb;have hs:=h.bl.size;refine⟨h.bl.alloc hs _,fun b' vs' hm i u hu=>?_,fun b' vs' hm=>?_,fun b' vs' hm=>?_⟩
 ·rcases List.mem_append.1 hm with hm|hm;·have hl:=h.lt _ _ hm;have:=h.at_ _ _ hm i u hu;exact⟨Iz _ this.1,IB _ this.1 this.2⟩
  simp only[List.mem_singleton,Prod.mk.injEq]at hm;obtain⟨rfl,rfl⟩:=hm;constructor;·have hn:=heap_alloc_new W (.cells vs'.toArray ty);generalize W.alloc (.cells vs'.toArray ty)=W2 at hn |-;generalize W.heap.size=k at hn |-;simp[World.cell?,hn,hu]
  have hn:=heap_alloc_new W (.cells vs'.toArray ty);generalize W.alloc (.cells vs'.toArray ty)=W2 at hn |-;generalize W.heap.size=k at hn |-;simp[World.frozen?,hn]
 ·rcases List.mem_append.1 hm with hm|hm;·have:=h.lt _ _ hm;simp;omega
  simp only[List.mem_singleton,Prod.mk.injEq]at hm;obtain⟨rfl,rfl⟩:=hm;simp
 rcases List.mem_append.1 hm with hm|hm;·exact h.ge _ _ hm
 simp only[List.mem_singleton,Prod.mk.injEq]at hm;obtain⟨rfl,rfl⟩:=hm;exact hs
theorem Fr.bel{M:List Nat}(h:Fr w W L)(hM:b_ M w):b_ M W:=hM.le h.bl.size
theorem Fr.abx{M:List Nat}(h:Fr w W L)(hM:b_ M w){b:Nat}(hb:(b,vs)∈L):b_ (b::M) W:=fun k hk=>by
 rcases List.mem_cons.1 hk with rfl|hk;·exact h.lt _ _ hb
 exact hM.le h.bl.size k hk
end
theorem Sl.moreL{α:Type} [kE α] {w:World}{M:List Nat}{A:Option Addr}{n c:Nat}{xs:List α}(h:Sl α w M A n c xs):∀(L:List Nat),(∀k,k∈L->w.heap.size<=k)->Sl α w (L++M) A n c xs
 | [],_=>h
 |b::L,hL=>(Sl.moreL h L (fun k hk=>hL k (List.mem_cons_of_mem _ hk))).more (hL b List.mem_cons_self)
theorem op1{w W:World}{L:List (Nat×List Value)}{q:Prop->Prop}{g:Prop}(h:Fr w W L)(k:q g)
 (e:∀g,(At W L->g)=q g:=by(intro g;simp only[List.nil_append,List.cons_append,At,Ce,Nat.zero_add,Nat.reduceAdd,and_imp,true_imp_iff];exact rfl)):g:=by
 rw[<-e g]at k;exact k h.Um
theorem nam{w W:World}{L:List (Nat×List Value)}(h:Fr w W L):∃V,W=V/\Fr w V L:=⟨W,rfl,h⟩
theorem fP{u w W:World}{L:List (Nat×List Value)}(h:Fr u W L)(hb:Below w.heap.size w W:=by exact bel):∃V,W=V/\Below w.heap.size w V/\Fr u V L:=⟨W,rfl,hb,h⟩
section
variable {w W:World}{L:List (Nat×List Value)}
theorem Fr.a(h:Fr w W L)(b:Nat)(vs:List Value)(ty:TypeId)(hb:b=W.heap.size:=by simp):Fr w (W.alloc (.cells vs.toArray ty)) (L++ [(b,vs)]):=h.al b vs ty hb
theorem Fr.a4(h:Fr w W L)(b:Nat)(ty:TypeId)(hb:b=W.heap.size:=by simp):Fr w (W.alloc (.cells #[.bool false,.slice none 0 0,.bool false,.slice none 0 0] ty)) (L++ [(b, [.bool false,.slice none 0 0,.bool false,.slice none 0 0])]):=h.al b _ ty hb
theorem Fr.a0(h:Fr w W L)(b:Nat)(ty:TypeId)(hb:b=W.heap.size:=by simp):Fr w (W.alloc (.cells #[.int .i64 0] ty)) (L++ [(b, [.int .i64 0])]):=h.al b _ ty hb
theorem Fr.nth(h:Fr w W L)(k:Nat){b:Nat}(hm:L[k]?=some (b,vs):=by exact rfl):∀(i:Nat) (u:Value),vs[i]?=some u->W.cell? ⟨b,i,none⟩=some u:=fun i u hu=>(h.at_ b vs (List.mem_of_getElem? hm) i u hu).1
theorem Fr.mJ(h:Fr w W L)(k:Nat){b:Nat}(hm:L[k]?=some (b,vs):=by exact rfl):b<W.heap.size:=h.lt b vs (List.mem_of_getElem? hm)
theorem Fr.gen(h:Fr w W L)(k:Nat){b:Nat}(hm:L[k]?=some (b,vs):=by exact rfl):w.heap.size<=b:=h.ge b vs (List.mem_of_getElem? hm)
theorem Fr.aQ(h:Fr w W L)(k i:Nat){b:Nat}(hm:L[k]?=some (b,vs):=by exact rfl)(hu:vs[i]?=some u:=by exact rfl):W.cell? ⟨b,i,none⟩=some u:=(h.at_ b vs (List.mem_of_getElem? hm) i u hu).1
theorem Fr.zN(h:Fr w W L)(k i:Nat){b:Nat}(hm:L[k]?=some (b,vs):=by exact rfl)(hu:vs[i]?=some u:=by exact rfl):W.frozen? ⟨b,i,none⟩=false:=(h.at_ b vs (List.mem_of_getElem? hm) i u hu).2
end
end Go.Proofs.YtefnknhjlejalaaGreatDoor
