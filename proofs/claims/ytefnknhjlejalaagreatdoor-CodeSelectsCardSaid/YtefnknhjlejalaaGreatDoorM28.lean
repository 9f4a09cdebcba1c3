/- Lemmas and walks; no statement is proved here. -/
import Derived.Maps.OwnIn
import Derived.Maps.OwnSet
import Derived.Maps.Views
import Derived.Lib.AppendZeros
import Derived.Test.YtefnknhjlejalaaGreatDoorM27
import Derived.Test.YtefnknhjlejalaaGreatDoorM21
set_option linter.unusedVariables false
set_option linter.unusedSimpArgs false
set_option maxRecDepth 20000
set_option maxHeartbeats 6000000
namespace Go.Proofs.YtefnknhjlejalaaGreatDoor
open Go.Proofs.Tryz Go.RowKit Go.Shelf
theorem ad5{p:Prop}(h:p:=by subst hb;have h:(w.alloc (.cells #[v] t)).heap[w.heap.size]?=some (.cells #[v] t (0,0)):=heap_alloc_new w _;exact⟨by unfold World.cell?;simp only[h];rfl,by unfold World.frozen?;simp only[h];rfl⟩):p:=h
theorem ae0{p:Prop}(h:p:=by apply List.filter_congr;intro x hx;have:¬x=k:=fun e=>hn2.1 (e▸hx);simp[this]):p:=h
theorem ae5{p:Prop}(h:p:=by rw[List.mem_singleton]at hq;subst hq;exact List.mem_append_left _ (by simp[bP,Value.ownBlock])):p:=h
variable {a:Act}{ops:Array Oper}{n0 f g i k c m h cap j:Nat}{listed listed':Array Bool}{o:Oper}{K:Act→World→Prop}{t:TypeId}{x:Operand}{u u0:Value}{A:Option Addr}{nm:List ByteArray}{L:List (Nat×List Value)}{us:List Value}
def lS(listed:Array Bool)(I:List Nat):Array Bool:=I.foldl (fun l i=>l.setIfInBounds i true) listed
def PV(ops:Array Oper)(n0:Nat)(listed:Array Bool)(I:List Nat):Bool:=
 decide I.Nodup&&decide (listed.size=ops.size)&&
 I.all (fun i=>decide (i<n0)&&decide (i<ops.size)&& !listed.getD i true&&((ops[i]?).map (·.after.all fun e=> !Region.binds .any e||listed.getD e.on false)).getD false)&&
 (List.range ops.size).all (fun j=>listed.getD j true||I.contains j||((ops[j]?).map fun o=>(o.after.any fun e=>Region.binds .any e&& !listed.getD e.on false&& !I.contains e.on)||I.all (fun i=>o.after.any fun e=>Region.binds .any e&&e.on==i)).getD false)
theorem BX:∀(I:List Nat) (l:Array Bool),(lS l I).size=l.size/\∀j,(lS l I).getD j true=(l.getD j true||decide (j∈I))
 | [],l=>⟨rfl,fun j=>by simp[lS]⟩
 |i::I,l=>by
  obtain⟨h1,h2⟩:=BX I (l.setIfInBounds i true);refine⟨by simpa[lS]using h1,fun j=>?_⟩;have h3:=h2 j;simp only[lS,List.foldl_cons]at h3 |-;rw[h3];by_cases e:i=j;·subst e;by_cases hl:i<l.size<;>simp[hl]
  rw[getD_set_ne true e];have e2:¬j=i:=fun h=>e h.symm;simp[e2]
theorem XQ{a b:Array Bool}(hs:a.size=b.size)(h:∀j,a.getD j true=b.getD j true):a=b:=by apply Array.ext hs;intro i h1 h2;have:=h i;simpa[h1,h2]using this
theorem yP{D:Nat->Bool}{i:Nat}:∀{I:List Nat},I.Nodup->i∈I->D i=false->(I.filter fun j=> !D j).length=(I.filter fun j=> !(D j||decide (j=i))).length+1
 | [],_,h,_=>by cases h
 |k::I,hn,h,hd=>by
  have hn2:=List.nodup_cons.1 hn;by_cases e:k=i
  ·subst e;have key:(I.filter fun j=> !(D j||decide (j=k)))=I.filter fun j=> !D j:=by
    exact ae0
   rw[List.filter_cons_of_pos (by simp[hd]),List.filter_cons_of_neg (by simp),key];rfl
  have ih:=yP (D:=D) hn2.2 ((List.mem_cons.1 h).resolve_left (fun x=>e x.symm)) hd;cases hk:D k<;>simp[hk,e,ih]
section
variable {F:Fence}{n:Nat}{P:Program}{Mr:List Nat}{Q:Exit→Act→World→Prop}
theorem QN{I:List Nat}(Rel:(Nat->Bool)->World->Prop)(hok:PV ops n0 listed I=true)
 (hstep:∀i,i∈I->∀D W,D i=false->(∀j,D j=true->j∈I)->Rel D W->wpOpIn F n P ops Q i (fun a' w'=>a'=a/\Keeps Mr W w'/\Rel (fun j=>D j||decide (j=i)) w') a W)
 (hend:∀W,Rel (fun j=>decide (j∈I)) W->nH F n P Mr ops Q n0 f (lS listed I) a W):
 ∀(r:Nat) (D:Nat->Bool) (L:Array Bool) (W:World),(I.filter fun i=> !D i).length=r->(∀j,D j=true->j∈I)->L.size=listed.size->(∀j,L.getD j true=(listed.getD j true||D j))->Rel D W->nH F n P Mr ops Q n0 (f+r) L a W:=by
 simp only[PV,Bool.and_eq_true,decide_eq_true_eq]at hok;obtain⟨⟨⟨hnd,hsz⟩,hI⟩,hO⟩:=hok;have hI2:∀i,i∈I->i<n0/\i<ops.size/\listed.getD i true=false/\∃o,ops[i]?=some o/\∀e∈o.after,Region.binds .any e=true->listed.getD e.on false=true:=by intro i hi;have h:=List.all_eq_true.1 hI i hi;simp only[Bool.and_eq_true,decide_eq_true_eq,Bool.not_eq_true']at h;obtain⟨⟨⟨a1,a2⟩,a3⟩,a4⟩:=h;refine⟨a1,a2,a3,ops[i],Array.getElem?_eq_getElem a2,fun e he hb=>?_⟩;rw[Array.getElem?_eq_getElem a2]at a4;simp only[Option.map_some,Option.getD_some,Array.all_eq_true_iff_forall_mem,Bool.or_eq_true]at a4;exact(a4 e he).resolve_left (by simp[hb])
 have low:∀{L:Array Bool}{j:Nat},L.getD j false=true->j<L.size/\L.getD j true=true:=by
  intro L j h;by_cases hl:j<L.size;·exact⟨hl,by simpa[hl]using h⟩
  simp[hl]at h
 intro r
 induction r with
 |zero=>
  intro D L W hr hD hs hL hR;have hall:∀i,i∈I->D i=true:=fun i hi=>by have:=List.filter_eq_nil_iff.1 (List.length_eq_zero_iff.1 hr) i hi;simpa using this
  have eD:D=fun j=>decide (j∈I):=by
   funext j;by_cases hj:j∈I;·simp[hj,hall j hj]
   have:D j=false:=by
    cases e:D j with
    |false=>rfl
    |true=>exact absurd (hD j e) hj
   simp[hj,this]
  subst eD;have eL:L=lS listed I:=XQ (by rw[(BX I listed).1,hs]) (fun j=>by rw[hL,(BX I listed).2]);subst eL;exact hend W hR
 |succ r ih=>
  intro D L W hr hD hs hL hR;have hLf:∀{j:Nat},listed.getD j false=true->L.getD j false=true:=by
   intro j hj;obtain⟨h1,h2⟩:=low hj;have h3:=hL j;rw[h2]at h3;have h4:j<L.size:=by omega
   simpa[h4]using h3
  obtain⟨i0,hi0,hd0⟩:∃i,i∈I/\D i=false:=by
   have hne:(I.filter fun i=> !D i)≠ []:=fun e=>by rw[e]at hr;simp at hr
   obtain⟨x,hx⟩:=List.exists_mem_of_ne_nil _ hne;rw[List.mem_filter]at hx;exact⟨x,hx.1,by simpa using hx.2⟩
  have rdy:∀j,j∈Region.ready .any ops L->j∈I/\D j=false:=by
   intro j hj;rw[mem_ready]at hj;obtain⟨h0,o,ho,NC⟩:=hj;have h0':=hL j;rw[h0]at h0';have h1:listed.getD j true=false:=by
    cases e:listed.getD j true with
    |false=>rfl
    |true=>rw[e]at h0';simp at h0'
   have h2:D j=false:=by
    cases e:D j with
    |false=>rfl
    |true=>rw[e]at h0';simp at h0'
   by_cases hjI:j∈I;·exact⟨hjI,h2⟩
   exfalso;have hjs:j<ops.size:=(Array.getElem?_eq_some_iff.1 ho).1;have h:=List.all_eq_true.1 hO j (List.mem_range.2 hjs);rw[h1,ho]at h;have hc:I.contains j=false:=by simpa using hjI
   rw[hc]at h;simp only[Bool.false_or,Option.map_some,Option.getD_some,Bool.or_eq_true,Array.any_eq_true,List.all_eq_true,Bool.and_eq_true,Bool.not_eq_true']at h;rcases h with⟨k,hk,⟨hb,hl⟩,hc2⟩|h
   ·have h5:=NC _ (Array.getElem_mem hk) hb;obtain⟨h6,h7⟩:=low h5;rw[hL]at h7;have h8:listed.getD (o.after[k].on) true=false:=by
     have:o.after[k].on<listed.size:=by omega
     simpa[this]using hl
    rw[h8,Bool.false_or]at h7;have:=hD _ h7;simp[this]at hc2
   obtain⟨k,hk,hb,he⟩:=h i0 hi0;have h5:=NC _ (Array.getElem_mem hk) hb;have he2:o.after[k].on=i0:=by simpa using he
   rw[he2]at h5;have h7:=(low h5).2;rw[hL,(hI2 i0 hi0).2.2.1,hd0]at h7;simp at h7
  unfold nH jQ;refine⟨fun e=>?_,fun i hi=>?_⟩
  ·obtain⟨b1,b2,b3,o,ho,NC⟩:=hI2 i0 hi0;have hm:i0∈Region.ready .any ops L:=by
    rw[mem_ready];exact⟨by rw[hL,b3,hd0];rfl,o,ho,fun e he hb=>hLf (NC e he hb)⟩
   rw[e]at hm;cases hm
  ·obtain⟨hiI,hdi⟩:=rdy i hi;refine⟨(hI2 i hiI).1,wpOpIn_mono (fun a' w'=>?_) (hstep i hiI D W hdi hD hR)⟩;rintro⟨rfl,hk,hR'⟩;refine⟨hk,?_⟩;have:=ih (fun j=>D j||decide (j=i)) (L.setIfInBounds i true) w' (by have:=yP hnd hiI hdi;omega) (fun j hj=>by
    simp only[Bool.or_eq_true,decide_eq_true_eq]at hj;rcases hj with hj|rfl;·exact hD j hj
    ·exact hiI) (by simpa using hs) (fun j=>by
    by_cases e:i=j
    ·subst e;have h5:i<L.size:=by have:=(hI2 i hiI).2.1;omega
     simp[h5]
    have e2:¬j=i:=fun h=>e h.symm;rw[getD_set_ne true e,hL];simp[e2]) hR'
   unfold nH at this;exact this
theorem aaC{w:World}(I:List Nat)(Rel:(Nat->Bool)->World->Prop)(h0:Rel (fun _=>false) w)
 (hstep:∀i,i∈I->∀D W,D i=false->(∀j,D j=true->j∈I)->Rel D W->wpOpIn F n P ops Q i (fun a' w'=>a'=a/\Keeps Mr W w'/\Rel (fun j=>D j||decide (j=i)) w') a W)
 (hend:∀W,Rel (fun j=>decide (j∈I)) W->nH F n P Mr ops Q n0 f listed' a W) (hok:PV ops n0 listed I=true:=by kernel_rfl) (hl:lS listed I=listed':=by kernel_rfl) (hg:g=f+I.length:=by exact rfl):nH F n P Mr ops Q n0 g listed a w:=by
 subst hl;subst hg;exact QN Rel hok hstep hend I.length (fun _=>false) listed w (by simp) (fun j hj=>by cases hj) rfl (fun j=>by simp) h0
end
theorem Ui{F:Fence}{n:Nat}{P:Program}{Q:Exit->Act->World->Prop}{W W':World}{y z:Operand}(ho:ops[i]?=some o)(hop:o.op=.insert t x y z)(hg:o.guard=none)(hd:o.dst=none)
 (hr:(Instr.mapUpdate t (a.eval x) (a.eval y) (a.eval z)).run P W=.ok () W') (hK:K a W'):wpOpIn F n P ops Q i K a W:=by
 have hm:Oper.mild o=true:=by unfold Oper.mild;rw[hop]
 have hw:Region.wanted o (yielded ops a.tmps)=true:=gQ hg;have hx:(execOp a.eval o).run P W=.ok .skip W':=by unfold execOp;rw[hop];simp[hr,Result.andThen]
 unfold Go.wpOpIn;simp only[ho,hw,if_true,Oper.wpIn,sF hm,hx,Oper.uponIn];refine⟨jP hm W _,?_⟩;have:a.put o.dst undef=a:=by rw[hd];rfl
 rw[this];exact hK
open Classical in
noncomputable def E8:List Value->Value->Option Nat
 | [],_=>none
 |x::r,v=>if v=x then some 0 else(E8 r v).map (· +1)
theorem CX:∀{vs:List Value}{v:Value}{i:Nat},E8 vs v=some i->vs[i]?=some v
 | [],_,_,h=>by cases h
 |x::r,v,i,h=>by
  unfold E8 at h;split at h;·rename_i e;cases h;rw[e];rfl
  cases e:E8 r v with
  |none=>rw[e]at h;cases h
  |some j=>rw[e]at h;cases h;exact(CX e:r[j]?=some v)
theorem xK:∀{vs:List Value}{v:Value},v∈vs->∃i,E8 vs v=some i
 |x::r,v,h=>by
  unfold E8;split;·exact⟨0,rfl⟩
  rename_i e;obtain⟨i,hi⟩:=xK ((List.mem_cons.1 h).resolve_left e);exact⟨i+1,by rw[hi];rfl⟩
noncomputable def IZ (vs:List Value) (v:Value):Option (DataW Unit×List MemPlace):=(E8 vs v).map fun i=>(.lit (.int .i64 (i:Int)), [])
theorem xO{vs:List Value}{v:Value}{ps:List MemPlace}(h:IZ vs v=some (.lit (.int .i64 (i:Int)),ps))(hu:E8 vs u=some i):v=u:=by
 unfold IZ at h
 cases e:E8 vs v with
 |none=>rw[e]at h;cases h
 |some j=>
  rw[e]at h;injection h with h;injection h with h1 _;injection h1 with h1;injection h1 with _ h1;have:j=i:=by omega
  subst this;have a:=CX e;have b:=CX hu;rw[a]at b;exact Option.some.inj b
abbrev sQ(k:Int):Lit:=.int .i64 k
theorem XV:Go.Maps.Keyed prog 3:=Go.Maps.int_keyed underlying3
theorem xP{k:Int}(h:i64 k):keyOf prog 3 (.int .i64 k)=some (sQ k):=Go.Maps.keyOf_int_mk underlying3 (Go.WalkArith.wf_i64 h)
def MV(vs:List Value)(w:World)(b n:Nat)(S:Int->Option Value):Prop:=∃D:DataW Unit,w.ownsMap prog 3 (IZ vs) b n D/\Go.Maps.IsMap D/\∀k,match S k with
  |none=>Go.Maps.has D (sQ k)=false/\∀z,D.atKey (sQ k) z=z
  |some v=>Go.Maps.has D (sQ k)=true/\∃i:Nat,E8 vs v=some i/\∀z,D.atKey (sQ k) z=.lit (.int .i64 (i:Int))
section
variable {vs:List Value}{w w':World}{b n:Nat}{S:Int→Option Value}
theorem MV.new(vs:List Value)(w:World):MV vs (w.alloc (.map #[] 0)) w.heap.size 0 (fun _=>none):=⟨_,World.ownsMap_made _ _ _ _,Go.Maps.isMap_empty,fun _=>⟨rfl,fun _=>rfl⟩⟩
theorem MV.lt(h:MV vs w b n S):b<w.heap.size:=by obtain⟨D,⟨es,clock,h1,-⟩,-⟩:=h;exact(Array.getElem?_eq_some_iff.1 h1).1
theorem MV.block(h:MV vs w b n S)(hb:w'.heap[b]?=w.heap[b]?):MV vs w' b n S:=by obtain⟨D,⟨es,clock,h1,h2⟩,h3⟩:=h;exact⟨D,⟨es,clock,hb.trans h1,h2⟩,h3⟩
theorem MV.go(h:MV vs w b n S)(hb:Below w.heap.size w w'):MV vs w' b n S:=h.block (hb.block b h.lt)
theorem MV.store{t e:TypeId}(h:MV vs w b n S)(ht:prog.underlying t=some (.map 3 e)){k:Int}(hk:i64 k){v:Value}(hv:v∈vs)(hn:n<1000000):
 ∃w',(Instr.mapUpdate t (.map (some b)) (.int .i64 k) v).run prog w=.ok () w'/\MV vs w' b (n+1) (fun j=>if j=k then some v else S j)/\w.mapTurned w' b:=by
 obtain⟨D,h1,h2,h3⟩:=h;obtain⟨i,hi⟩:=xK hv;obtain⟨w',r1,r2,r3⟩:=h1.store XV ht (by unfold maxLen;omega) (xP hk) (show IZ vs v=some (.lit (.int .i64 (i:Int)), []) by unfold IZ;rw[hi];rfl);refine⟨w',r1,⟨_,r2,h2.put _ _,fun j=>?_⟩,r3⟩;by_cases e:j=k;·subst e;simp only[if_true];exact⟨Go.Maps.has_put_same (k:=sQ j) h2 trivial _,i,hi,fun z=>Go.Maps.atKey_put_same (k:=sQ j) h2 trivial _ z⟩
 ·have e2:sQ j≠sQ k:=fun h=>e (by injection h);have h4:=h3 j;simp only[if_neg e];revert h4;rw[Go.Maps.has_put_other e2]
  cases S j with
  |none=>exact fun h4=>⟨h4.1,fun z=>(Go.Maps.atKey_put_other e2 _ z).trans (h4.2 z)⟩
  |some u=>exact fun h4=>⟨h4.1,h4.2.choose,h4.2.choose_spec.1,fun z=>(Go.Maps.atKey_put_other e2 _ z).trans (h4.2.choose_spec.2 z)⟩
theorem MV.look_ok{t e:TypeId}{z:Value}(h:MV vs w b n S)(ht:prog.underlying t=some (.map 3 e))(hz:(zeroValue e).run prog w=.ok z w)(hzv:z∈vs){k:Int}(hk:i64 k):
 (Instr.lookup t (.map (some b)) (.int .i64 k) true).run prog w=.ok (.tuple #[(S k).getD z,.bool (S k).isSome]) w:=by
 obtain⟨D,h1,h2,h3⟩:=h;obtain⟨i,hi⟩:=xK hzv;obtain⟨v,ps,r1,r2⟩:=h1.look_ok XV ht hz (show IZ vs z=some (.lit (.int .i64 (i:Int)), []) by unfold IZ;rw[hi];rfl) (xP hk);have h4:=h3 k
 cases e:S k with
 |none=>rw[e]at h4;rw[r1,h4.1];rw[h4.2]at r2;rw[xO r2 hi];rfl
 |some u=>rw[e]at h4;obtain⟨g1,j,g2,g3⟩:=h4;rw[r1,g1];rw[g3]at r2;rw[xO r2 g2];rfl
theorem MV.look{e:TypeId}{z:Value}(h:MV vs w b n S)(ht:prog.underlying t=some (.map 3 e))(hz:(zeroValue e).run prog w=.ok z w)(hzv:z∈vs){k:Int}(hk:i64 k):
 (Instr.lookup t (.map (some b)) (.int .i64 k) false).run prog w=.ok ((S k).getD z) w:=by
 obtain⟨D,h1,h2,h3⟩:=h;obtain⟨i,hi⟩:=xK hzv;obtain⟨v,ps,r1,r2⟩:=h1.lookup XV ht hz (show IZ vs z=some (.lit (.int .i64 (i:Int)), []) by unfold IZ;rw[hi];rfl) (xP hk);have h4:=h3 k
 cases e:S k with
 |none=>rw[e]at h4;rw[h4.2]at r2;rw[r1,xO r2 hi];rfl
 |some u=>rw[e]at h4;obtain⟨g1,j,g2,g3⟩:=h4;rw[g3]at r2;rw[r1,xO r2 g2];rfl
end
def SE:List (Nat×Int×Value)->(Nat->Bool)->Int->Option Value
 | [],_,_=>none
 |e::r,D,j=>if D e.1=true/\j=e.2.1 then some e.2.2 else SE r D j
def qZ:List (Int×Value)->Int->Option Value
 | [],_=>none
 |e::r,j=>if j=e.1 then some e.2 else qZ r j
theorem P7:∀(E:List (Nat×Int×Value)),SE E (fun _=>false)=fun _=>none
 | []=>rfl
 |e::r=>by funext j;have:=congrFun (P7 r) j;simp[SE,this]
theorem UH:∀{E:List (Nat×Int×Value)}{D:Nat->Bool},(∀e,e∈E->D e.1=true)->SE E D=qZ (E.map fun e=>e.2)
 | [],_,_=>rfl
 |e::r,D,h=>by funext j;have h2:=congrFun (UH (E:=r) (D:=D) (fun x hx=>h x (List.mem_cons_of_mem _ hx))) j;simp only[SE,h e List.mem_cons_self,true_and,List.map_cons,qZ,h2]
theorem UJ{D:Nat->Bool}{i:Nat}:∀{E:List (Nat×Int×Value)},(∀e,e∈E->e.1≠i)->SE E (fun j=>D j||decide (j=i))=SE E D
 | [],_=>rfl
 |e::r,h=>by funext j;have h2:=congrFun (UJ (D:=D) (E:=r) (fun x hx=>h x (List.mem_cons_of_mem _ hx))) j;have h3:=h e List.mem_cons_self;simp[SE,h2,h3]
theorem P8{D:Nat->Bool}{i:Nat}{k:Int}{v:Value}:∀{E:List (Nat×Int×Value)},(E.map fun e=>e.1).Nodup->(E.map fun e=>e.2.1).Nodup->(i,k,v)∈E->
 (fun j=>if j=k then some v else SE E D j)=SE E (fun j=>D j||decide (j=i))
 |e::r,hi,hk,h=>by
  simp only[List.map_cons,List.nodup_cons]at hi hk;funext j;by_cases e0:e=(i,k,v);·subst e0;have h2:=congrFun (UJ (D:=D) (i:=i) (E:=r) (fun x hx e=>hi.1 (List.mem_map.2 ⟨x,hx,e⟩))) j;simp only[SE,h2,decide_true,Bool.or_true,true_and];by_cases hj:j=k<;>simp[hj]
  have hm:=(List.mem_cons.1 h).resolve_left (fun x=>e0 x.symm);have n1:¬e.1=i:=fun x=>hi.1 (List.mem_map.2 ⟨_,hm,x.symm⟩);have n2:¬e.2.1=k:=fun x=>hk.1 (List.mem_map.2 ⟨_,hm,x.symm⟩);have h2:=congrFun (P8 (D:=D) hi.2 hk.2 hm) j;simp only[SE];rw[<-h2];by_cases hj:j=k;·subst hj;have n3:¬j=e.2.1:=fun x=>n2 x.symm;simp[n3]
  simp[hj,n1]
theorem CY{D:Nat->Bool}{i:Nat}:∀{I:List Nat},I.Nodup->i∈I->D i=false->(I.filter fun j=>D j||decide (j=i)).length=(I.filter fun j=>D j).length+1
 | [],_,h,_=>by cases h
 |k::I,hn,h,hd=>by
  have hn2:=List.nodup_cons.1 hn;by_cases e:k=i
  ·subst e;have key:(I.filter fun j=>D j||decide (j=k))=I.filter fun j=>D j:=by
    exact ae0
   rw[List.filter_cons_of_pos (by simp),List.filter_cons_of_neg (by simp[hd]),key];rfl
  have ih:=CY (D:=D) hn2.2 ((List.mem_cons.1 h).resolve_left (fun x=>e x.symm)) hd;cases hk:D k;·rw[List.filter_cons_of_neg (by simp[hk,e]),List.filter_cons_of_neg (by simp[hk]),ih]
  rw[List.filter_cons_of_pos (by simp[hk]),List.filter_cons_of_pos (by simp[hk]),List.length_cons,List.length_cons,ih]
section
variable {F:Fence}{n:Nat}{Mr:List Nat}{Q:Exit→Act→World→Prop}
theorem Rf{w:World}(E:List (Nat×Int×Value))(vs:List Value)(mb:Nat){e:TypeId}(h0:MV vs w mb 0 (fun _=>none))
 (hend:∀W m,Below mb w W->MV vs W mb m (qZ (E.map fun e=>e.2))->nH F n prog Mr ops Q n0 f listed' a W) (ht:prog.underlying t=some (.map 3 e)) (hx:a.eval x=.map (some mb)) (hM:mb∈Mr)
 (hv:∀e,e∈E->e.2.2∈vs/\i64 e.2.1) (hi:(E.map fun e=>e.1).Nodup) (hk:(E.map fun e=>e.2.1).Nodup) (hE:E.length<=1000)
 (hops:∀e,e∈E->∃o y z,ops[e.1]?=some o/\o.op=.insert t x y z/\o.guard=none/\o.dst=none/\a.eval y=.int .i64 e.2.1/\a.eval z=e.2.2)
 (hok:PV ops n0 listed (E.map fun e=>e.1)=true:=by kernel_rfl) (hl:lS listed (E.map fun e=>e.1)=listed':=by((try simp only[lS,List.map_cons,List.map_nil,List.foldl_cons,List.foldl_nil,List.setIfInBounds_toArray,List.set_cons_succ,List.set_cons_zero]);(first|done|exact rfl))) (hg:g=f+E.length:=by exact rfl):nH F n prog Mr ops Q n0 g listed a w:=by
 refine aaC (E.map fun e=>e.1) (fun D W=>Below mb w W/\MV vs W mb ((E.map fun e=>e.1).filter fun j=>D j).length (SE E D)) ⟨Below.refl _ _,?_⟩ ?_ ?_ hok hl (by rw[List.length_map];exact hg);·rw[P7,show((E.map fun e=>e.1).filter fun _=>false)= [] by simp];exact h0
 ·intro i him D W hd _ hR;obtain⟨⟨i',k,v⟩,hm,rfl⟩:=List.mem_map.1 him;obtain⟨o,y,z,ho,hop,hgd,hdst,ey,ez⟩:=hops _ hm;obtain⟨hv1,hk1⟩:=hv _ hm;have hc:=CY (D:=D) hi him hd;have hle:((E.map fun e=>e.1).filter fun j=>D j).length<=1000:=Nat.le_trans (List.length_filter_le _ _) (by simpa using hE);obtain⟨W',r1,mv,mt⟩:=hR.2.store ht hk1 hv1 (by omega);refine Ui ho hop hgd hdst (W':=W') (by rw[hx,ey,ez];exact r1) ⟨rfl,(Keeps.refl Mr W).grown mt.grown (fun q hq=>.inl (by cases hq;exact hM)),hR.1.grown mt.grown (Nat.le_of_lt hR.2.lt) (fun q hq=>by cases hq;exact Nat.le_refl _),?_⟩;rw[hc,<-P8 hi hk hm];exact mv
 ·intro W hR;have h5:=hR.2;rw[UH (fun e he=>by simp only[decide_eq_true_eq];exact List.mem_map.2 ⟨e,he,rfl⟩)]at h5;exact hend W _ hR.1 h5
end
theorem aN{w:World}{b o:Nat}{v:Value}(h:w.cell? ⟨b,o,none⟩=some v):w.setCell ⟨b,o,none⟩ v=w:=by
 obtain⟨heap,tape,drawn,os,output⟩:=w;have hh:(heap.modify b fun| .cells c elem frozen=>.cells (c.setIfInBounds o v) elem frozen|o=>o)=heap:=by
  apply Array.ext;·simp
  intro i h1 h2;rw[Array.getElem_modify];split
  ·rename_i e;subst e;simp only[World.cell?,Array.getElem?_eq_getElem h2]at h;split at h
   ·rename_i c t f he;have he2:heap[b]=.cells c t f:=by simpa using he
    rw[he2];simp only[Option.isSome_none,Bool.false_eq_true,if_false]at h;have hl:=(Array.getElem?_eq_some_iff.1 h).1;simp only[Obj.cells.injEq,and_true];apply Array.ext;·simp
    intro j j1 j2;rw[Array.getElem_setIfInBounds (by simpa using j2)];split;·rename_i e;subst e;rw[Array.getElem?_eq_getElem hl]at h;exact(Option.some.inj h).symm
    rfl
   cases h
  rfl
 exact congrArg (fun h=>(⟨h,tape,drawn,os,output⟩:World)) hh
section
variable {α:Type} [kJ α] {e:TypeId}{w w':World}{M M':List Nat}{base base' n:Nat}{v:Value}{xs:List α}
theorem bD.aaD(h:bD α e w M base v n xs){b:Nat}(hb:w.heap.size<=b):bD α e w (b::M) base v n xs:=by
 obtain⟨cs,h1,h2⟩:=h.ex;refine⟨h.len,cs,h1,fun k x hk=>?_⟩;obtain⟨es,a,c⟩:=h2 k x hk;refine⟨es,Rep.less (Rep.more a hb) (fun q hq=>?_),c⟩;rcases List.mem_append.1 hq with hq|hq;·exact List.mem_cons_of_mem _ (List.mem_append_left _ hq)
 rcases List.mem_cons.1 hq with rfl|hq;·exact List.mem_cons_self
 exact List.mem_cons_of_mem _ (List.mem_append_right _ hq)
theorem bD.UC(h:bD α e w M base v n xs)(hs:∀q,q∈M'->q∈M):bD α e w M' base v n xs:=by
 obtain⟨cs,h1,h2⟩:=h.ex;refine⟨h.len,cs,h1,fun k x hk=>?_⟩;obtain⟨es,a,c⟩:=h2 k x hk;refine⟨es,Rep.less a (fun q hq=>?_),c⟩;rcases List.mem_append.1 hq with hq|hq;·exact List.mem_append_left _ hq
 exact List.mem_append_right _ (hs q hq)
theorem bD.low(h:bD α e w M base v n xs)(hb:base'<=base):bD α e w M base' v n xs:=by
 obtain⟨cs,⟨h1,h2⟩,h3⟩:=h.ex;refine⟨h.len,cs,⟨h1,?_⟩,h3⟩;rcases h2 with g|⟨g,cap,cur,rfl,g1,g2⟩;·exact .inl g
 exact .inr ⟨g,cap,cur,rfl,Nat.le_trans hb g1,g2⟩
theorem bD.shape(h:bD α e w M base v n xs):∃A c,v=.slice A n c:=by
 obtain⟨cs,⟨h1,h2⟩,-⟩:=h.ex;rcases h2 with⟨rfl,rfl⟩|⟨g,cap,cur,rfl,-⟩;·exact⟨_,_,rfl⟩
 exact⟨_,_,rfl⟩
theorem bD.apart(h:bD α e w M base v n xs)(k:Keeps M' w w')(hs:∀q,q∈M'->q∈M)(hg:∀q,q∈M'->v.ownBlock≠some q):bD α e w' M base v n xs:=by obtain⟨cs,h1,h2⟩:=h.ex;refine⟨h.len,cs,qp h1 (fun q hq hk=>k.block q hk (fun hm=>hg q hm hq)),fun i x hx=>?_⟩;exact aeJ
end
theorem IX{F:Fence}{n:Nat}{P:Program}{Q:Exit->Act->World->Prop}{w w':World}(x y:Operand)(t tn:TypeId){v v':Value}
 (ho:o.op=.call { callee:=.builtin .append,args:=#[x,y],argTypes:=#[t,tn] }) (hx:a.eval x=v) (hy:a.eval y=u)
 (hr:(Builtin.append_ #[t,tn] o.type #[v,u]).run P w=.ok v' w') (hk:K (a.put o.dst v') w'):o.wpIn F n P a w K Q:=by
 exact adH
theorem Kq:iU 121 (Rep.sz bW):=iU.mk' Gt rfl (by omega)
theorem Gw(w:World):(sizeOf 121).run prog w=.ok 3 w:=by kernel_rfl
theorem UD{n:Nat}(hn:n<=100000)(M:List Nat)(w:World):
 Calls prog 201 #[.slice none 0 0,.int .i64 (n:Int)] w fun e w'=>∃v,e=.returned v/\bD bW 121 w' M w.heap.size v 0 []/\Below w.heap.size w w':=by
 refine wid ?_;by_cases h0:n=0;·subst h0;refine ent func201 rfl ntmps201 ?_;gi_wp2;go_ret;exact⟨_,rfl,bD.nil _ _ _,Below.refl _ _⟩
 ·obtain⟨i,hi,hz0,hz1,hz2⟩:=info_parts Gt;have hrun:=Lib.run_append_nil_zeros (P:=prog) w 48 3 48 121 i _ .i64 .i64 underlying48 underlying3 hi hz0 n (by omega) (by omega) (by omega) (by rw[hz2];omega);obtain⟨cp,hcp⟩:=aC (grownCap w n 0 121);have hge:=grownCap_ge w n 0 121;have hle:=grownCap_le_maxLen w n 0 121 (by unfold maxLen;omega);obtain⟨cs,hcs⟩:=aC (Builtin.zeroCells (Value.agg #[.string ⟨#[]⟩,.int .i64 0,.int .i64 0]).cells n++Builtin.zeroCells (Value.agg #[.string ⟨#[]⟩,.int .i64 0,.int .i64 0]).cells (cp-n));rw[hcp]at hge hle hrun;rw[hcs]at hrun;have hsz:cs.size=cp*3:=by
   rw[<-hcs,Array.size_append,size_zeroCells,size_zeroCells];rw[show(Value.agg #[.string ⟨#[]⟩,.int .i64 0,.int .i64 0]).cells.size=3 from rfl];omega
  have s1:=nZ underlying48 Gw none (n:=0) (cp:=0) (k:=0) (by omega) (by omega);have s2:=nZ underlying48 Gw (some ⟨w.heap.size,0,none⟩) (n:=n) (cp:=cp) (k:=0) (by omega) hge;have hpos:(0:Int)<(n:Int):=by omega
  have HR:=Hd hrun;have HZ:=Hd2 hsz hle;clear hrun hcs hcp hle;refine ent func201 rfl ntmps201 ?_
  gi_wp2_with (first
   |(gi_at_builtin;refine wpListIn_plain rfl fun K hK'=>?_;refine IX _ _ _ _ rfl rfl rfl HR.out (hK' _ _ ?_);clear hK' K)
   |fail)
  go_ret;refine⟨_,rfl,⟨rfl, [],⟨by simp,.inr ⟨w.heap.size,cp,cs,rfl,Nat.le_refl _,heap_alloc_new w.drew _,Nat.zero_le _,HZ.out.2,HZ.out.1,by simp⟩⟩,fun k x hx=>by simp at hx⟩,?_⟩;exact((Below.refl w.heap.size w).drew).alloc (Nat.le_refl _) _
theorem Sl.own{α:Type} [kE α] {w:World}{M:List Nat}{n:Nat}{l:List α}{v:Value}(h:Sl α w M A n c l)(hg:∀q,v.ownBlock=some q->w.heap.size<=q):Sl α w (bP v++M) A n c l:=by
 unfold bP
 cases hv:v.ownBlock with
 |none=>simpa using h
 |some q=>exact h.more (hg q hv)
theorem Kr{w w0:World}{M:List Nat}{v:Value}{n:Nat}{xs ys:List bW}(h:bD bW 121 w M w0.heap.size v n xs)(hb:Below w0.heap.size w0 w)(hy:Sl bW w0 M A m c ys)(hn:n+m<=100000):
 ∃v' w',(Builtin.append_ #[48,48] 48 #[v,.slice A m c]).run prog w=.ok v' w'/\bD bW 121 w' M w0.heap.size v' (n+m) (xs++ys)/\Below w0.heap.size w0 w':=by
 obtain⟨i,z,i1,i2,i3,i4,i5⟩:=Kq;have hy2:=(hy.own (v:=v) (fun q hq=>(h.lt hq).1)).go hb;obtain⟨v',w',r1,r2,r3,-⟩:=h.uy (t:=48) (ty:=48) hb.size underlying48 i1 i2 i3 i4 hy2 (by have:=Nat.mul_le_mul hn i5;omega) (by omega);exact⟨v',w',r1,r2,hb.grown r3 hb.size (fun k hk=>(h.lt hk).1)⟩
set_option maxHeartbeats 8000000 in
theorem CW{B:Option Addr}{n d:Nat}{l l':List bW}{M:List Nat}{w:World}(hx:Sl bW w M A n c l)(hy:Sl bW w M B m d l')(c0:w.cell? ⟨g,0,none⟩=some (.slice A n c))(c1:w.cell? ⟨g,1,none⟩=some (.slice B m d))(hnm:n+m<=100000):
 Calls prog 171 #[.slice (some ⟨g,0,none⟩) 2 2] w fun e w'=>∃v,e=.returned v/\bD bW 121 w' M w.heap.size v (n+m) (l++l')/\Below w.heap.size w w':=by
 refine wid ?_;have H:=Hd2 hx hy;have HC:=Hd2 c0 c1;have HN:=Hd hnm;clear hx hy;refine ent func171 rfl ntmps171 ?_;gi_wp2;gi_loopw[3,11] (fun v3 i wr=>w=wr/\((i=.int .i64 0/\v3=.int .i64 0)\/(i=.int .i64 1/\v3=.int .i64 (n:Int))\/(i=.int .i64 2/\v3=.int .i64 ((n+m:Nat):Int)))) (fun _ i _=>2-(intOf i).toNat);case atStart=>exact⟨rfl,.inl ⟨rfl,rfl⟩⟩
 case round=>
  obtain⟨hw,⟨rfl,rfl⟩|⟨rfl,rfl⟩|⟨rfl,rfl⟩⟩:=hrel
  ·subst hw;have hw1:¬((0:Int)+(n:Int)<0):=by omega
   have hw2:¬((n:Int)<0):=by omega
   gi_wp2;exact⟨⟨trivial,.inr (.inl ⟨rfl,rfl⟩)⟩,by decide⟩
  ·subst hw;have hw1:¬((n:Int)+(m:Int)<0):=by omega
   gi_wp2;exact⟨⟨trivial,.inr (.inr ⟨rfl,by go_num⟩)⟩,by decide⟩
  ·subst hw
   gi_wp2_with (first
    |(refine Cl 201 (UD HN.out M _) ?_;rintro e w1 ⟨v,rfl,own,hb1⟩;have HO:=Hd own;have HB:=Hd hb1;clear own hb1)
    |fail)
   gi_loopw[6,27] (fun v6 i wr=>Hid (Below w.heap.size w wr)/\((i=.int .i64 0/\Hid (bD bW 121 wr M w.heap.size v6 0 []))\/(i=.int .i64 1/\Hid (bD bW 121 wr M w.heap.size v6 n l))\/(i=.int .i64 2/\Hid (bD bW 121 wr M w.heap.size v6 (n+m) (l++l'))))) (fun _ i _=>2-(intOf i).toNat);case atStart=>exact⟨HB,.inl ⟨rfl,HO⟩⟩
   case round=>
    obtain⟨hB,⟨rfl,hO⟩|⟨rfl,hO⟩|⟨rfl,hO⟩⟩:=hrel
    ·have d0:=(Keeps.of_below hB.out []).cell (by simp) HC.out.1;obtain⟨v7,w7,r1,r2,r3⟩:=Kr (m:=n) hO.out hB.out H.out.1 (by have:=HN.out;omega);have HR:=Hd r1;have HO7:=Hd2 r2 r3;clear r1 r2 r3
     gi_wp2_with (first
      |(gi_at_builtin;refine wpListIn_plain rfl fun K hK'=>?_;refine aI _ _ _ rfl rfl rfl HR.out (hK' _ _ ?_);clear hK' K)
      |fail)
     exact⟨⟨HO7.out.2,.inr (.inl ⟨rfl,by have h:=HO7.out.1;rw[Nat.zero_add,List.nil_append]at h;exact h⟩)⟩,by decide⟩
    ·have d1:=(Keeps.of_below hB.out []).cell (by simp) HC.out.2;obtain⟨v7,w7,r1,r2,r3⟩:=Kr (m:=m) hO.out hB.out H.out.2 HN.out;have HR:=Hd r1;have HO7:=Hd2 r2 r3;clear r1 r2 r3
     gi_wp2_with (first
      |(gi_at_builtin;refine wpListIn_plain rfl fun K hK'=>?_;refine aI _ _ _ rfl rfl rfl HR.out (hK' _ _ ?_);clear hK' K)
      |fail)
     exact⟨⟨HO7.out.2,.inr (.inr ⟨rfl,HO7.out.1⟩)⟩,by decide⟩
    ·gi_wp2;go_ret;exact⟨_,rfl,hO.out,hB.out⟩
abbrev nR:List Value:= [.string ⟨#[]⟩,.slice none 0 0,.slice none 0 0,.slice none 0 0,.slice none 0 0,.slice none 0 0,.slice none 0 0,.slice none 0 0,.int .i64 0]
theorem vM{b:Nat}:∀(us:List Value) (o:Nat) {w U:World},(∀i,i<us.length->∃v,w.cell? ⟨b,o+i,none⟩=some v)->fM w b o us=U->(∀i,i<o->U.cell? ⟨b,i,none⟩=w.cell? ⟨b,i,none⟩)/\∀i u,us[i]?=some u->U.cell? ⟨b,o+i,none⟩=some u
 | [],o,w,U,_,h=>by subst h;exact⟨fun _ _=>rfl,fun i u hu=>by simp at hu⟩
 |x::us,o,w,U,hc,h=>by
  obtain⟨v0,h0⟩:=hc 0 (by simp);rw[Nat.add_zero]at h0;have hx:(w.setCell ⟨b,o,none⟩ x).cell? ⟨b,o,none⟩=some x:=cZ h0;have ho:∀i,i≠o->(w.setCell ⟨b,o,none⟩ x).cell? ⟨b,i,none⟩=w.cell? ⟨b,i,none⟩:=fun i hi=>by simp[go_sem,hi,fun e:o=i=>hi e.symm]
  obtain⟨r1,r2⟩:=vM us (o+1) (w:=w.setCell ⟨b,o,none⟩ x) (fun i hi=>by obtain⟨v,hv⟩:=hc (i+1) (by simp;omega);exact⟨v,by rw[ho _ (by omega),show o+1+i=o+(i+1) by omega];exact hv⟩) h;refine⟨fun i hi=>(r1 i (by omega)).trans (ho i (by omega)),fun i u hu=>?_⟩
  cases i with
  |zero=>simp only[List.getElem?_cons_zero,Option.some.injEq]at hu;subst hu;rw[Nat.add_zero];exact(r1 o (by omega)).trans hx
  |succ i=>
   rw[List.getElem?_cons_succ]at hu;have:=r2 i u hu
   rwa [show o+1+i=o+(i+1) by omega]at this
theorem Kt(w:World):(Instr.makeMap 207 none).run prog w=.ok (.map (some w.heap.size)) (w.alloc (.map #[] 0)):=by rfl
theorem UE(w:World):(Instr.makeMap 228 none).run prog w=.ok (.map (some w.heap.size)) (w.alloc (.map #[] 0)):=by rfl
theorem dB.al{w:World}{b:Nat}(h:dB w b nm k)(o:Obj):dB (w.alloc o) b nm k:=h.block (Below.heap_alloc w o b h.lt)
theorem dB.new{w:World}{b:Nat}(nm:List ByteArray)(hb:b=w.heap.size):dB (w.alloc (.map #[] 0)) b nm 0:=by subst hb;exact dB.made w nm
theorem aZ.al{w:World}{b:Nat}{v:Value}(h:aZ w b v)(o:Obj):aZ (w.alloc o) b v:=h.block (Below.heap_alloc w o b h.lt)
theorem aZ.new{w:World}{b:Nat}(v:Value)(t:TypeId)(hb:b=w.heap.size):aZ (w.alloc (.cells #[v] t)) b v:=by exact ad5
structure Made(w W:World)(h:Nat)(cn inm tn rn:List ByteArray):Prop where
 bl:Below w.heap.size w W
 sz:W.heap.size=h+6
 c:dB W h cn 0
 i:dB W (h+1) inm 0
 t:dB W (h+1+1) tn 0
 r:dB W (h+1+1+1) rn 0
 vc:aZ W (h+1+1+1+1) (.map (some h))
 vr:aZ W (h+1+1+1+1+1) (.map (some (h+1+1+1)))
theorem Gx(w:World)(cn inm tn rn:List ByteArray):∃W,((((((w.alloc (.map #[] 0)).alloc (.map #[] 0)).alloc (.map #[] 0)).alloc (.map #[] 0)).alloc (.cells #[.map (some w.heap.size)] 207)).alloc (.cells #[.map (some (w.heap.size+1+1+1))] 207))=W/\Made w W w.heap.size cn inm tn rn:=by
 refine⟨_,rfl,?_,?_,?_,?_,?_,?_,?_,?_⟩;·exact((((((Below.refl w.heap.size w).alloc (by simp) _).alloc (by simp;try omega) _).alloc (by simp;try omega) _).alloc (by simp;try omega) _).alloc (by simp;try omega) _).alloc (by simp;try omega) _
 ·simp
 ·exact(((((dB.new cn rfl).al _).al _).al _).al _).al _
 ·exact((((dB.new inm (by simp)).al _).al _).al _).al _
 ·exact(((dB.new tn (by simp)).al _).al _).al _
 ·exact((dB.new rn (by simp)).al _).al _
 ·exact(aZ.new _ _ (by simp)).al _
 exact aZ.new _ _ (by simp)
section
variable {w W W':World}{M:List Nat}{r:aS}{s1 s2 s3 s4 s5 s6 s7:dK}
theorem dG.keep(h:dG W M r s1 s2 s3 s4 s5 s6 s7)(k:Keeps M W W'):dG W' M r s1 s2 s3 s4 s5 s6 s7:=⟨h.aT.keep k,h.bonus.keep k,h.malus.keep k,h.ties.keep k,h.rounds.keep k,h.prizes.keep k,h.points.keep k,h.best⟩
theorem dG.more(h:dG W M r s1 s2 s3 s4 s5 s6 s7){b:Nat}(hb:W.heap.size<=b):dG W (b::M) r s1 s2 s3 s4 s5 s6 s7:=⟨h.aT.more hb,h.bonus.more hb,h.malus.more hb,h.ties.more hb,h.rounds.more hb,h.prizes.more hb,h.points.more hb,h.best⟩
structure RB(w W:World)(h:Nat)(L:List (Nat×List Value))(M:List Nat)(r:aS)(s1 s2 s3 s4 s5 s6 s7:dK):Prop where
 f:Fr w W L
 lt:∀b vs,(b,vs)∈L->b<h
 hw:w.heap.size<=h
 vc:aZ W (h+1+1+1+1) (.map (some h))
 vr:aZ W (h+1+1+1+1+1) (.map (some (h+1+1+1)))
 tab:Tab W
 rs:dG W (h::(h+1)::(h+1+1)::(h+1+1+1)::M) r s1 s2 s3 s4 s5 s6 s7
theorem RB.turn(H:RB w W h L M r s1 s2 s3 s4 s5 s6 s7)(hm:dB W g nm k)(kb:KB g W W')(h1:h<=g)(h2:g<=h+3):RB w W' h L M r s1 s2 s3 s4 s5 s6 s7:=⟨H.f.kb kb (Nat.le_trans H.hw h1) (fun c vs hc=>by have:=H.lt c vs hc;omega),H.lt,H.hw,H.vc.kb kb.k (by omega),H.vr.kb kb.k (by omega),CG H.tab hm kb,H.rs.keep (kb.k.mono (fun q hq=>by rw[List.mem_singleton]at hq;subst hq;simp only[List.mem_cons];omega))⟩
theorem RB.go{h:Nat}{L:List (Nat×List Value)}(H:RB w W h L M r s1 s2 s3 s4 s5 s6 s7)(kb:Below W.heap.size W W'):RB w W' h L M r s1 s2 s3 s4 s5 s6 s7:=⟨H.f.go kb,H.lt,H.hw,H.vc.block (kb.block _ H.vc.lt),H.vr.block (kb.block _ H.vr.lt),tab_below H.tab kb,H.rs.go kb⟩
theorem dB.kb{b g k:Nat}{nm:List ByteArray}(h:dB W b nm k)(kb:KB g W W')(hne:b≠g):dB W' b nm k:=h.block (kb.k.block b h.lt (by simpa using hne))
theorem RB.of{cn inm tn rn:List ByteArray}(hf:Fr w W L)(ht:Tab W)(hr:dG W M r s1 s2 s3 s4 s5 s6 s7)(hm:Made W W' W.heap.size cn inm tn rn):RB w W' W.heap.size L M r s1 s2 s3 s4 s5 s6 s7:=⟨hf.go hm.bl,fun b vs hb=>hf.lt b vs hb,hf.bl.size,hm.vc,hm.vr,tab_below ht hm.bl,((((hr.more (b:=W.heap.size+1+1+1) (by omega)).more (b:=W.heap.size+1+1) (by omega)).more (b:=W.heap.size+1) (by omega)).more (b:=W.heap.size) (Nat.le_refl _)).go hm.bl⟩
theorem RB.bel(H:RB w W h L M r s1 s2 s3 s4 s5 s6 s7)(hM:b_ M w):∀q,q∈(h::(h+1)::(h+1+1)::(h+1+1+1)::M)->q<W.heap.size:=by
 intro q hq;have h1:=H.vr.lt;have h2:=H.f.bl.size;simp only[List.mem_cons]at hq;rcases hq with rfl|rfl|rfl|rfl|hq;·omega
 ·omega
 ·omega
 ·omega
 exact Nat.lt_of_lt_of_le (hM q hq) h2
end
section
variable {α β:Type} [kJ α] [kJ β] {e e':TypeId}{w w':World}{M M':List Nat}{base base' n n':Nat}{v v':Value}{xs:List α}{ys:List β}
theorem P5(h:bD α e w M base v n xs)(hb:Below w.heap.size w w')(h':bD β e' w' (bP v++M) w.heap.size v' n' ys):
 bD α e w' (bP v'++M) base v n xs/\bD β e' w' (bP v++M) w.heap.size v' n' ys/\∀q,v.ownBlock=some q->v'.ownBlock≠some q:=by
 refine⟨?_,h',fun q hq hq'=>?_⟩
 ·cases hv:v'.ownBlock with
  |none=>unfold bP;rw[hv];exact h.go hb
  |some g=>unfold bP;rw[hv];exact(h.aaD (h'.lt hv).1).go hb
 ·have h1:=(h.lt hq).2;have h2:=(h'.lt hq').1;omega
end
theorem set_self{α:Type}{l:List α}{x:α}(h:l[k]?=some x):l.set k x=l:=by obtain⟨hl,rfl⟩:=List.getElem?_eq_some_iff.1 h;exact List.set_getElem_self hl
abbrev xC(r:aS)(s1 s2 s3:dK)(v4 v5:Value)(s6 s7:dK):List Value:= [.string r.name,s1.v,s2.v,s3.v,v4,v5,s6.v,s7.v,.int .i64 r.best]
structure XS(w W:World)(lb fb cb rb eb bc br bt xb B:Nat)(cn rn tn:List ByteArray)(M:List Nat)(C:List Value)(v4:Value)(n4:Nat)(lt:List dA)(v5:Value)(n5:Nat)(lr:List aJ):Prop where
 bl:Below w.heap.size w W
 ll:w.heap.size<=lb
 re:RE W lb fb cb rb eb bc br cn rn
 it:dB W bt tn tn.length
 lo:aZ W lb (.bool false)
 x:∀i u,C[i]?=some u->W.cell? ⟨xb,i,none⟩=some u/\W.frozen? ⟨xb,i,none⟩=false
 UF:fb<B/\cb<B/\rb<B/\eb<B/\bc<B/\br<B
 P6:bt<B/\lb<B/\xb<B
 ne:bt≠lb/\xb≠lb
 BW:B<=W.heap.size
 o4:bD dA 169 W (bP v5++M) B v4 n4 lt
 o5:bD aJ 89 W (bP v4++M) B v5 n5 lr
 dj:∀q,v4.ownBlock=some q->v5.ownBlock≠some q
 bm:∀q,q∈M->q<B
 lM:lb∈M
section
variable {w W W':World}{lb fb cb rb eb bc br bt xb B:Nat}{cn rn tn:List ByteArray}{M:List Nat}{C:List Value}{v4:Value}{n4:Nat}{lt:List dA}{v5:Value}{n5:Nat}{lr:List aJ}
theorem XS.kb(h:XS w W lb fb cb rb eb bc br bt xb B cn rn tn M C v4 n4 lt v5 n5 lr)(k:KB lb W W')(v:aZ W' lb (.bool false)):XS w W' lb fb cb rb eb bc br bt xb B cn rn tn M C v4 n4 lt v5 n5 lr where
 bl:=h.bl.trans (k.bl.mono h.ll)
 ll:=h.ll
 re:=h.re.kb k
 it:=h.it.kb k h.ne.1
 lo:=v
 x i u hu:=jB (h.x i u hu) (k.k.block xb (Nat.lt_of_lt_of_le h.P6.2.2 h.BW) (by simpa using h.ne.2))
 UF:=h.UF
 P6:=h.P6
 ne:=h.ne
 BW:=Nat.le_trans h.BW k.k.size
 o4:=h.o4.spare k.k (fun q hq=>by rw[List.mem_singleton]at hq;subst hq;exact List.mem_append_right _ h.lM) (fun q hq=>by rw[List.mem_singleton]at hq;subst hq;exact h.P6.2.1)
 o5:=h.o5.spare k.k (fun q hq=>by rw[List.mem_singleton]at hq;subst hq;exact List.mem_append_right _ h.lM) (fun q hq=>by rw[List.mem_singleton]at hq;subst hq;exact h.P6.2.1)
 dj:=h.dj
 bm:=h.bm
 lM:=h.lM
theorem XS.go(h:XS w W lb fb cb rb eb bc br bt xb B cn rn tn M C v4 n4 lt v5 n5 lr)(k:Below W.heap.size W W'):XS w W' lb fb cb rb eb bc br bt xb B cn rn tn M C v4 n4 lt v5 n5 lr:=h.kb ⟨Keeps.of_below k _,k.mono (Nat.le_of_lt h.lo.lt)⟩ (h.lo.block (k.block _ h.lo.lt))
theorem XS.high(h:XS w W lb fb cb rb eb bc br bt xb B cn rn tn M C v4 n4 lt v5 n5 lr)(k:Keeps [g] W W')(hb:Below B W W')(hg:B<=g){lt':List dA}{lr':List aJ}
 (o4:bD dA 169 W' (bP v5++M) B v4 n4 lt') (o5:bD aJ 89 W' (bP v4++M) B v5 n5 lr'):XS w W' lb fb cb rb eb bc br bt xb B cn rn tn M C v4 n4 lt' v5 n5 lr' where
 bl:=h.bl.trans (hb.mono (Nat.le_trans h.ll (Nat.le_of_lt h.P6.2.1)))
 ll:=h.ll
 re:={ h.re with
   f:=h.re.f.block (hb.block _ h.UF.1)
   c:=h.re.c.block (hb.block _ h.UF.2.1)
   r:=h.re.r.block (hb.block _ h.UF.2.2.1)
   e:=h.re.e.block (hb.block _ h.UF.2.2.2.1)
   ic:=h.re.ic.block (hb.block _ h.UF.2.2.2.2.1)
   ir:=h.re.ir.block (hb.block _ h.UF.2.2.2.2.2) }
 it:=h.it.block (hb.block _ h.P6.1)
 lo:=h.lo.block (hb.block _ h.P6.2.1)
 x i u hu:=jB (h.x i u hu) (hb.block xb h.P6.2.2)
 UF:=h.UF
 P6:=h.P6
 ne:=h.ne
 BW:=Nat.le_trans h.BW k.size
 o4:=o4
 o5:=o5
 dj:=h.dj
 bm:=h.bm
 lM:=h.lM
theorem XS.Yv{x:dA}{A2:Option Addr}{m2 c2:Nat}(h:XS w W lb fb cb rb eb bc br bt xb B cn rn tn M C (.slice (some ⟨g,0,none⟩) n4 cap) n4 lt v5 n5 lr)(hk:lt[k]?=some x)(hs:Sl bK W (g::(bP v5++M)) A2 m2 c2 x.2)(hw:W.setCell ⟨g,k*2+1,none⟩ (.slice A2 m2 c2)=W'):
 XS w W' lb fb cb rb eb bc br bt xb B cn rn tn M C (.slice (some ⟨g,0,none⟩) n4 cap) n4 lt v5 n5 lr/\Keeps [g] W W':=by
 have hg:=(h.o4.lt (k:=g) rfl).1;obtain⟨o4,kp⟩:=h.o4.Yo (j:=1) (us:= [.slice A2 m2 c2]) (x:=x) hk (show 1+1<=2 by omega) (fun es hes=>by obtain⟨B',m',d',rfl,-⟩:=vJ hes;exact⟨[.string x.1], [.slice A2 m2 c2],rfl,rfl,A2,m2,c2,rfl,hs⟩) (w':=W') hw;rw[set_self hk]at o4;refine⟨h.high kp (by rw[<-hw];exact(Below.refl _ _).setCell (p:=⟨g,k*2+1,none⟩) hg _) hg o4 (h.o5.apart kp (fun q hq=>by exact ae5) (fun q hq=>by rw[List.mem_singleton]at hq;subst hq;exact h.dj q rfl)),kp⟩
theorem XS.aaG{x0 x:aJ}(h:XS w W lb fb cb rb eb bc br bt xb B cn rn tn M C v4 n4 lt (.slice (some ⟨g,0,none⟩) n5 cap) n5 lr)(hk:lr[k]?=some x0)(hj:j+us.length<=13)
 (hr:∀es,Rep.rd W (g::(bP v4++M)) x0 es->Rep.rd W (g::(bP v4++M)) x (es.take j++us++es.drop (j+us.length))) (hw:fM W g (k*13+j) us=W'):
 XS w W' lb fb cb rb eb bc br bt xb B cn rn tn M C v4 n4 lt (.slice (some ⟨g,0,none⟩) n5 cap) n5 (lr.set k x)/\Keeps [g] W W':=by
 have hg:=(h.o5.lt (k:=g) rfl).1;obtain⟨o5,kp⟩:=h.o5.Yo (j:=j) (us:=us) (x:=x) hk hj hr (w':=W') hw;refine⟨h.high kp (by rw[<-hw];exact lq hg us _ (Below.refl _ _)) hg (h.o4.apart kp (fun q hq=>by exact ae5) (fun q hq=>by rw[List.mem_singleton]at hq;subst hq;exact fun e=>h.dj q e rfl)) o5,kp⟩
end
def oh:List Nat->(Nat->Value)->Act->Act
 | [],_,a=>a
 |d::ds,f,a=>oh ds f (a.put (some d) (f d))
theorem zO{b c i:Nat}:∀(us:List Value) (o:Nat) (w:World),(fM w b o us).frozen? ⟨c,i,none⟩=w.frozen? ⟨c,i,none⟩
 | [],_,_=>rfl
 |u::us,o,w=>by show(fM (w.setCell ⟨b,o,none⟩ u) b (o+1) us).frozen? _=_;rw[zO us (o+1)];simp[go_sem]
abbrev mP(W:World)(b:Nat)(C:List Value):Prop:=∀i u,C[i]?=some u->W.cell? ⟨b,i,none⟩=some u/\W.frozen? ⟨b,i,none⟩=false
theorem iO{w U:World}{b:Nat}{vs:List Value}(hc:mP w b vs)(hl:us.length=vs.length)(h:fM w b 0 us=U):mP U b us/\KB b w U:=by
 refine⟨fun i u hu=>?_,?_⟩
 ·have hi:=(List.getElem?_eq_some_iff.1 hu).1;refine⟨?_,?_⟩
  ·have:=(vM us 0 (fun i hi=>⟨vs[i]'(by omega),by rw[Nat.zero_add];exact(hc i _ (List.getElem?_eq_getElem (by omega))).1⟩) h).2 i u hu
   rwa [Nat.zero_add]at this
  rw[<-h,zO];exact(hc i _ (List.getElem?_eq_getElem (by omega))).2
 rw[<-h];exact⟨qV (w:=w) us 0 w,lq (Nat.le_refl _) us 0 (Below.refl _ _)⟩
theorem uD{w:World}{b:Nat}{C:List Value}(hc:mP w b C)(hj:C[j]?=some u0)(u:Value):mP (w.setCell ⟨b,j,none⟩ u) b (C.set j u)/\KB b w (w.setCell ⟨b,j,none⟩ u):=by
 refine⟨fun i v hv=>?_,⟨(Keeps.refl _ _).setCell (p:=⟨b,j,none⟩) (.inl (by simp)) _,(Below.refl b w).setCell (p:=⟨b,j,none⟩) (Nat.le_refl _) _⟩⟩;have hl:=(List.getElem?_eq_some_iff.1 hj).1;by_cases e:i=j;·subst e;rw[List.getElem?_set_self hl]at hv;cases hv;exact⟨cZ (hc i u0 hj).1,by simp[go_sem,(hc i u0 hj).2]⟩
 rw[List.getElem?_set_ne (fun e'=>e e'.symm)]at hv;have:=hc i v hv;exact⟨by simp[go_sem,e,fun e':j=i=>e e'.symm,this.1],by simp[go_sem,this.2]⟩
abbrev IY:Option Value->List Nat
 |none=> []
 |some v=>bP v
structure Ku(V W:World)(xb:Nat)(M:List Nat)(lt:List dA)(n4:Nat)(lr:List aJ)(n5:Nat)(C:List Value)(p q:Option Value):Prop where
 kb:KB xb V W
 xV:xb<V.heap.size
 xM:xb∈M
 x:mP W xb C
 o4:∀v,p=some v->bD dA 169 W (IY q++M) V.heap.size v n4 lt
 o5:∀v,q=some v->bD aJ 89 W (IY p++M) V.heap.size v n5 lr
 dj:∀k,k∈IY p->k∉IY q
section
variable {V W W':World}{xb:Nat}{M:List Nat}{lt:List dA}{n4:Nat}{lr:List aJ}{n5:Nat}{C:List Value}{p q:Option Value}
theorem Ku.sl{α:Type} [kE α] {n:Nat}{l:List α}(h:Ku V W xb M lt n4 lr n5 C p q)(hs:Sl α V M A n c l){o:Option Value}(ho:o=p\/o=q):Sl α W (IY o++M) A n c l:=by
 have hk:Sl α V (IY o++M) A n c l:=Sl.moreL hs (IY o) (fun k hk=>by
  cases o with
  |none=>cases hk
  |some v=>
   rcases ho with ho|ho;·exact((h.o4 v ho.symm).lt (bJ.1 hk)).1
   ·exact((h.o5 v ho.symm).lt (bJ.1 hk)).1)
 exact hk.keep (h.kb.k.mono (fun k hk=>by rw[List.mem_singleton]at hk;subst hk;exact List.mem_append_right _ h.xM))
theorem Ku.go(h:Ku V W xb M lt n4 lr n5 C p q)(hb:Below W.heap.size W W'):Ku V W' xb M lt n4 lr n5 C p q where
 kb:=h.kb.go hb (by have:=h.xV;have:=h.kb.k.size;omega)
 xV:=h.xV
 xM:=h.xM
 x i u hu:=jB (h.x i u hu) (hb.block xb (by have:=h.xV;have:=h.kb.k.size;omega))
 o4 v hv:=(h.o4 v hv).go hb
 o5 v hv:=(h.o5 v hv).go hb
 dj:=h.dj
theorem Ku.tie{v:Value}(h:Ku V W xb M lt n4 lr n5 C none q)(hb:Below W.heap.size W W')(o:bD dA 169 W' (IY q++M) W.heap.size v n4 lt):Ku V W' xb M lt n4 lr n5 C (some v) q:=by
 have h2:=h.go hb
 cases q with
 |none=>exact⟨h2.kb,h2.xV,h2.xM,h2.x,fun u hu=>by cases hu;exact o.low h.kb.k.size,fun u hu=>(by cases hu),fun k hk hk'=>(by cases hk')⟩
 |some v5=>obtain⟨a,b,c⟩:=P5 (h.o5 v5 rfl) hb o;exact⟨h2.kb,h2.xV,h2.xM,h2.x,fun u hu=>by cases hu;exact b.low h.kb.k.size,fun u hu=>by cases hu;exact a,fun k hk hk'=>c k (bJ.1 hk') (bJ.1 hk)⟩
theorem Ku.rnd{v:Value}(h:Ku V W xb M lt n4 lr n5 C p none)(hb:Below W.heap.size W W')(o:bD aJ 89 W' (IY p++M) W.heap.size v n5 lr):Ku V W' xb M lt n4 lr n5 C p (some v):=by
 have h2:=h.go hb
 cases p with
 |none=>exact⟨h2.kb,h2.xV,h2.xM,h2.x,fun u hu=>(by cases hu),fun u hu=>by cases hu;exact o.low h.kb.k.size,fun k hk=>by cases hk⟩
 |some v4=>obtain⟨a,b,c⟩:=P5 (h.o4 v4 rfl) hb o;exact⟨h2.kb,h2.xV,h2.xM,h2.x,fun u hu=>by cases hu;exact a,fun u hu=>by cases hu;exact b.low h.kb.k.size,fun k hk hk'=>c k (bJ.1 hk) (bJ.1 hk')⟩
theorem Ku.put(h:Ku V W xb M lt n4 lr n5 C p q)(hj:C[j]?=some u0)(u:Value)(hw:W.setCell ⟨xb,j,none⟩ u=W'):Ku V W' xb M lt n4 lr n5 (C.set j u) p q/\Keeps [xb] W W':=by subst hw;obtain⟨x,k⟩:=uD h.x hj u;exact⟨⟨h.kb.trans k,h.xV,h.xM,x,fun v hv=>(h.o4 v hv).spare k.k (fun q hq=>by rw[List.mem_singleton]at hq;subst hq;exact List.mem_append_right _ h.xM) (fun q hq=>by rw[List.mem_singleton]at hq;subst hq;exact h.xV),fun v hv=>(h.o5 v hv).spare k.k (fun q hq=>by rw[List.mem_singleton]at hq;subst hq;exact List.mem_append_right _ h.xM) (fun q hq=>by rw[List.mem_singleton]at hq;subst hq;exact h.xV),h.dj⟩,k.k⟩
end
abbrev qX(y:aJ):ByteArray:=y.2.2.2.2.2.2.2.1
abbrev XE(y:aJ):Int:=y.2.2.2.2.2.2.2.2
abbrev dP(r:aS):List ByteArray:=r.aT.map fun x=>x.1
abbrev UG(r:aS):List ByteArray:=(r.bonus++r.malus).map fun x=>x.1
abbrev jF(r:aS):List ByteArray:=r.ties.map fun x=>x.1
abbrev dQ(r:aS):List ByteArray:=r.rounds.map fun x=>x.1
def lU(nm:List ByteArray)(s:ByteArray)(n:Int):Prop:=xB nm s=false/\((xA nm s:Nat):Int)=n
def ZG(r:aS)(k:bK):Prop:=k.2.1.size<=maxLen/\(k.1=1->lU (dP r) k.2.1 k.2.2)/\(k.1=2->lU (dQ r) k.2.1 k.2.2)/\(k.1=5->lU (jF r) k.2.1 k.2.2)
def aaH(r:aS)(y:aJ):Prop:=Ut (au y)/\iV (dP r) (dQ r) (au y)=false/\lC (dP r) (dQ r) (au y)=au y/\(qX y).size<=maxLen/\((qX y).toList= []/\XE y= -1\/¬(qX y).toList= []/\lU (jF r) (qX y) (XE y))
structure ZH(r:aS):Prop where
 small:fD r=true
 parts:∀y,y∈r.rounds->nodes (au y)<=1000
 len:r.aT.length<=1000/\r.bonus.length+r.malus.length<=1000/\r.ties.length<=1000/\r.rounds.length<=1000
 NT:∀t,t∈r.ties->t.2.length<=1000
 z1:∀x,x∈r.aT->x.1.size<=maxLen
 z2:∀x,x∈r.bonus++r.malus->x.1.size<=maxLen
 z3:∀x,x∈r.ties->x.1.size<=maxLen
 z4:∀x,x∈r.rounds->x.1.size<=maxLen
 a1:(r.aT.all fun x=>bZ x.1)=true
 a2:((r.bonus++r.malus).all fun x=>bZ x.1)=true
 a3:(r.ties.all fun x=>bZ x.1)=true
 a4:(r.rounds.all fun x=>bZ x.1)=true
 o1:dX (dP r) r.aT.length=true
 o2:dX (UG r) (r.bonus.length+r.malus.length)=true
 o3:dX (jF r) r.ties.length=true
 o4:dX (dQ r) r.rounds.length=true
 name:bZ r.name=true
 keys:∀t,t∈r.ties->∀k,k∈t.2->ZG r k
 rounds:∀y,y∈r.rounds->aaH r y
end Go.Proofs.YtefnknhjlejalaaGreatDoor
