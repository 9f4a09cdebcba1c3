/- Lemmas -/
import Derived.Test.YtfdmnogfflcllaaGreatDoorRows
import Derived.WalkSpells
import Derived.WalkLawsBesides
import Derived.Lib.Hide
import Derived.RangeFuncNested
import Derived.RangeFuncBound
import Derived.Shelf.RegionOpen
import Derived.OwnWalkIn
import Derived.LoopNIn
import Derived.LoopIn
import Derived.StillTail
set_option linter.all false
set_option maxRecDepth 100000
set_option maxHeartbeats 0
namespace Go.Proofs.YtfdmnogfflcllaaGreatDoor
theorem AA{p:Prop}(h:p:=by((try simp only[Act.put,List.setIfInBounds_toArray,List.set_cons_succ,List.set_cons_zero]);(first|done|exact rfl))):p:=h
theorem AU{p:Prop}(h:p:=by(simp only[List.size_toArray,List.length_cons,List.length_nil,Nat.reduceAdd,Nat.reduceSub,Array.replicate_succ,Array.replicate_zero,List.push_toArray,List.append_toArray,List.nil_append,List.cons_append];(first|done|exact rfl))):p:=h
theorem AX{p:Prop}(h:p:=by(first|exact gQ rfl|(refine je rfl ?_;(focus (simp[yielded];done)))|fail)):p:=h
theorem EH{p:Prop}(h:p:=by(first|(refine yM rfl ?_;(focus (simp[yielded];done)))|(refine dU rfl ?_;(focus (simp[yielded];done)))|fail)):p:=h
theorem FK{p:Prop}(h:p:=by
 cases e with
 |returned u=>exact⟨keep a hy u,by rw[<-Act.put_comm a v u y];exact m⟩
 |panicked c=>exact hQ _ _ _ m
 |outgrown=>exact m):p:=h
theorem Hu{p:Prop}(h:p:=by rw[show f+1+g=(f+g)+1 by omega];exact⟨fun h0=>absurd h0 h.1,fun i hi=>wpOpIn_mono (fun a' w' h'=>iK hL f _ a' w' h'.2) (h.2 i hi).2⟩):p:=h
theorem Ub{p:Prop}(h:p:=by(intro w' e Z d;simp only[execOp];(repeat conv in Act.eval _ _=>whnf);(try go_simp);exact d)):p:=h
theorem Xc{p:Prop}(h:p:=by rw[List.getElem?_toArray,ho];simp only[hw,if_true];exact h _ (fun _ _ h=>h)):p:=h
theorem Xd{p:Prop}(h:p:=by
 cases x<;>simp only[Oper.uponIn]at h |-
 case panic u=>exact hQ _ _ _ h):p:=h
theorem YC{p:Prop}(h:p:=by have:=run_endLoop (P:=P) H (by rw[N];simp);rw[N]at this;exact this):p:=h
theorem _root_.Go.RowKit.Hid.a{p q:Prop}(h:Go.RowKit.Hid (p/\q)):p:=h.out.1
theorem _root_.Go.RowKit.Hid.u{p q:Prop}(h:Go.RowKit.Hid (p/\q)):q:=h.out.2
theorem _root_.Go.RowKit.Hid.b{p q r:Prop}(h:Go.RowKit.Hid (p/\q/\r)):q:=h.out.2.1
theorem _root_.Go.RowKit.Hid.v{p q r:Prop}(h:Go.RowKit.Hid (p/\q/\r)):r:=h.out.2.2
theorem _root_.Go.RowKit.Hid.c{p q r s:Prop}(h:Go.RowKit.Hid (p/\q/\r/\s)):r:=h.out.2.2.1
theorem _root_.Go.RowKit.Hid.w{p q r s:Prop}(h:Go.RowKit.Hid (p/\q/\r/\s)):s:=h.out.2.2.2
theorem _root_.Go.RowKit.Hid.d{p q r s t:Prop}(h:Go.RowKit.Hid (p/\q/\r/\s/\t)):s:=h.out.2.2.2.1
theorem _root_.Go.RowKit.Hid.x{p q r s t:Prop}(h:Go.RowKit.Hid (p/\q/\r/\s/\t)):t:=h.out.2.2.2.2
theorem _root_.Go.RowKit.Hid.e{p q r s t u:Prop}(h:Go.RowKit.Hid (p/\q/\r/\s/\t/\u)):t:=h.out.2.2.2.2.1
theorem _root_.Go.RowKit.Hid.y{p q r s t u:Prop}(h:Go.RowKit.Hid (p/\q/\r/\s/\t/\u)):u:=h.out.2.2.2.2.2
theorem _root_.Go.RowKit.Hid.f{p q r s t u v:Prop}(h:Go.RowKit.Hid (p/\q/\r/\s/\t/\u/\v)):u:=h.out.2.2.2.2.2.1
theorem _root_.Go.RowKit.Hid.z{p q r s t u v:Prop}(h:Go.RowKit.Hid (p/\q/\r/\s/\t/\u/\v)):v:=h.out.2.2.2.2.2.2
open Go.Proofs.Tryz Go.RowKit
variable {p r q t:Prop}{u:Value}{k D B g n0 id f:Nat}{W:World}{J:World→Prop}{oi:Oper}{listed:Array Bool}{ys:Nat→Option Bool}{fn:Func}{args:Array Value}{R:Ending→World→Prop}
structure Keeps(M:List Nat)(w w':World):Prop where
 size:w.heap.size<=w'.heap.size
 block:∀k,k<w.heap.size->k∉M->w'.heap[k]?=w.heap[k]?
section
variable {M M':List Nat}{w w' w'':World}
theorem Keeps.refl(M:List Nat)(w:World):Keeps M w w:=⟨Nat.le_refl _,fun _ _ _=>rfl⟩
theorem Keeps.trans(h:Keeps M w w')(h':Keeps M w' w''):Keeps M w w'':=⟨Nat.le_trans h.size h'.size,fun k hk hm=>(h'.block k (Nat.lt_of_lt_of_le hk h.size) hm).trans (h.block k hk hm)⟩
theorem Keeps.mono(h:Keeps M w w')(hs:∀x,x∈M->x∈M'):Keeps M' w w':=⟨h.size,fun k hk hm=>h.block k hk (fun e=>hm (hs _ e))⟩
theorem Keeps.of_below(h:Below w.heap.size w w')(M:List Nat):Keeps M w w':=⟨h.size,fun k hk _=>h.block k hk⟩
theorem Keeps.drew(h:Keeps M w w'):Keeps M w w'.drew:=⟨h.size,h.block⟩
theorem Keeps.ahK(h:Keeps M w w'):Keeps M w.drew w':=⟨h.size,h.block⟩
theorem Keeps.alloc(h:Keeps M w w')(o:Obj):Keeps M w (w'.alloc o):=⟨Nat.le_trans h.size (by simp),fun k hk hm=>(Below.heap_alloc w' o k (Nat.lt_of_lt_of_le hk h.size)).trans (h.block k hk hm)⟩
theorem Keeps.setCell(h:Keeps M w w'){p:Addr}(hp:p.block∈M\/w.heap.size<=p.block)(u:Value):Keeps M w (w'.setCell p u):=⟨Nat.le_trans h.size (by simp),fun k hk hm=>(Below.heap_setCell w' p u k (by
  rintro rfl;rcases hp with hp|hp;·exact hm hp
  omega)).trans (h.block k hk hm)⟩
theorem Keeps.grown{row:Option Nat}(h:Keeps M w w')(hg:w'.grownBy w'' row)(hr:∀k,row=some k->k∈M\/w.heap.size<=k):Keeps M w w'':=⟨Nat.le_trans h.size hg.size,fun k hk hm=>(hg.block k (Nat.lt_of_lt_of_le hk h.size) (fun e=>by
  rcases hr k e.symm with g|g;·exact hm g
  omega)).trans (h.block k hk hm)⟩
theorem Keeps.cell(h:Keeps M w w'){b o:Nat}(hm:b∉M){u:Value}(hc:w.cell? ⟨b,o,none⟩=some u):w'.cell? ⟨b,o,none⟩=some u:=by rw[World.cell?_of_block (w:=w) (h.block b (World.block_lt_of_cell? w (a:=⟨b,o,none⟩) hc) hm)];exact hc
end
def wR(w:World)(M:List Nat)(b o:Nat)(cs:List Value):Prop:=b∉M/\∀j u,cs[j]?=some u->w.cell? ⟨b,o+j,none⟩=some u
section
variable {M M':List Nat}{w w':World}{b o:Nat}{cs:List Value}
theorem wR.keep(h:wR w M b o cs)(k:Keeps M w w'):wR w' M b o cs:=⟨h.1,fun j u hu=>k.cell h.1 (h.2 j u hu)⟩
theorem wR.less(h:wR w M b o cs)(hs:∀x,x∈M'->x∈M):wR w M' b o cs:=⟨fun e=>h.1 (hs _ e),h.2⟩
theorem wR.c0(h:wR w M b o cs)(hu:cs[0]?=some u):w.cell? ⟨b,o,none⟩=some u:=by simpa using h.2 0 u hu
end
class Rep(α:Type) where
 sz:Nat
 rd:World->List Nat->α->List Value->Prop
 len:∀{w M x cs},rd w M x cs->cs.length=sz
 keep:∀{w w' M x cs},rd w M x cs->Keeps M w w'->rd w' M x cs
 less:∀{w M M' x cs},rd w M x cs->(∀k,k∈M'->k∈M)->rd w M' x cs
 more:∀{w M x cs b},rd w M x cs->w.heap.size<=b->rd w (b::M) x cs
def i64(n:Int):Prop:= -9223372036854775808<=n/\n<=9223372036854775807
instance:Rep Int where
 sz:=1
 rd _ _ n cs:=cs= [.int .i64 n]/\i64 n
 len h:=by rw[h.1];rfl
 keep h _:=h
 less h _:=h
 more h _:=h
instance:Rep Bool where
 sz:=1
 rd _ _ n cs:=cs= [.bool n]
 len h:=by rw[h];rfl
 keep h _:=h
 less h _:=h
 more h _:=h
def jG(c:Nat):Prop:=c<=9223372036854775807
structure Sl(α:Type) [Rep α] (w:World)(M:List Nat)(A:Option Addr)(n c:Nat)(xs:List α):Prop where
 len:xs.length=n
 cap:n<=c
 room:jG c
 small:n<=140737488355328
 at_:xs= []\/∃b o,A=some ⟨b,o,none⟩/\∀k x,xs[k]?=some x->∃es,Rep.rd w M x es/\wR w M b (o+k*Rep.sz α) es
section
variable {α:Type} [Rep α] {M M':List Nat}{w w':World}{A:Option Addr}{n c:Nat}{xs:List α}
theorem Sl.keep(h:Sl α w M A n c xs)(k:Keeps M w w'):Sl α w' M A n c xs:=by
 refine⟨h.len,h.cap,h.room,h.small,?_⟩;rcases h.at_ with g|⟨b,o,rfl,g⟩;·exact .inl g
 exact .inr ⟨b,o,rfl,fun j x hx=>by obtain⟨d,e,m⟩:=g j x hx;exact⟨d,Rep.keep e k,m.keep k⟩⟩
theorem Sl.less(h:Sl α w M A n c xs)(hs:∀k,k∈M'->k∈M):Sl α w M' A n c xs:=by
 refine⟨h.len,h.cap,h.room,h.small,?_⟩;rcases h.at_ with g|⟨b,o,rfl,g⟩;·exact .inl g
 exact .inr ⟨b,o,rfl,fun j x hx=>by obtain⟨d,e,m⟩:=g j x hx;exact⟨d,Rep.less e hs,m.less hs⟩⟩
end
class kE(α:Type) extends Rep α where
 pos:0<sz
instance:kE Int:=⟨by decide⟩
theorem Sl.more{α:Type} [kE α] {M:List Nat}{w:World}{A:Option Addr}{n c b:Nat}{xs:List α}(h:Sl α w M A n c xs)(hb:w.heap.size<=b):Sl α w (b::M) A n c xs:=by
 refine⟨h.len,h.cap,h.room,h.small,?_⟩;rcases h.at_ with g|⟨m,o,rfl,g⟩;·exact .inl g
 refine .inr ⟨m,o,rfl,fun j x hx=>?_⟩;obtain⟨y,z,d⟩:=g j x hx;refine⟨y,Rep.more z hb,?_,d.2⟩;have C:=Rep.len z;have E:0<y.length:=by rw[C];exact kE.pos
 have G:m<w.heap.size:=World.block_lt_of_cell? w _ (d.2 0 _ (List.getElem?_eq_getElem E));intro e;rcases List.mem_cons.1 e with e|e;·omega
 exact d.1 e
instance {α:Type} [kE α]:Rep (List α) where
 sz:=1
 rd w M xs cs:=∃A n c,cs= [.slice A n c]/\Sl α w M A n c xs
 len:=by rintro w M x cs ⟨A,n,c,rfl,_⟩;rfl
 keep:=by rintro w w' M x cs ⟨A,n,c,rfl,h⟩ k;exact⟨A,n,c,rfl,h.keep k⟩
 less:=by rintro w M M' x cs ⟨A,n,c,rfl,h⟩ k;exact⟨A,n,c,rfl,h.less k⟩
 more:=by rintro w M x cs b ⟨A,n,c,rfl,h⟩ k;exact⟨A,n,c,rfl,h.more k⟩
instance {α:Type} [kE α]:kE (List α):=⟨Nat.lt_succ_self 0⟩
theorem Sl.get{α:Type} [Rep α] {M:List Nat}{w:World}{A:Option Addr}{n c:Nat}{xs:List α}(h:Sl α w M A n c xs){x:α}(hk:xs[k]?=some x):
 ∃b o es,A=some ⟨b,o,none⟩/\Rep.rd w M x es/\wR w M b (o+k*Rep.sz α) es:=by
 rcases h.at_ with g|⟨b,o,rfl,g⟩;·rw[g]at hk;simp at hk
 ·obtain⟨es,d,e⟩:=g k x hk;exact⟨b,o,es,rfl,d,e⟩
theorem Sl.pR{M:List Nat}{w:World}{A:Option Addr}{n c:Nat}{xs:List Int}(h:Sl Int w M A n c xs)(hk:k<n):
 ∃b o x,A=some ⟨b,o,none⟩/\w.cell? ⟨b,o+k,none⟩=some (.int .i64 x)/\i64 x/\xs.drop k=x::xs.drop (k+1)/\xs[k]?=some x:=by
 have d:k<xs.length:=by rw[h.len];exact hk
 obtain⟨b,o,j,rfl,⟨rfl,e⟩,h2⟩:=h.get (List.getElem?_eq_getElem d);exact⟨b,o,_,rfl,by have:=h2.c0 rfl;rwa [show Rep.sz Int=1 from rfl,Nat.mul_one]at this,e,List.drop_eq_getElem_cons d,List.getElem?_eq_getElem d⟩
theorem Sl.BO{w:World}{base:Nat}{e:TypeId}{v:Value}{n:Nat}{xs:List Int}{M:List Nat}(h:w.ownsRow base e 1 v n (xs.map (Value.int .i64)))(hx:∀x,x∈xs->i64 x)(hn:n<=140737488355328)
 (hM:∀k,k∈M->k<base):∃A c,v=.slice A n c/\Sl Int w M A n c xs:=by
 have z:xs.length=n:=by have:=h.1;simpa using this
 rcases h.2 with⟨rfl,V⟩|⟨g,H,I,rfl,O,S,G,C,N,T⟩;·subst V;have:xs= []:=List.eq_nil_of_length_eq_zero z;subst this;exact⟨none,0,rfl,⟨rfl,Nat.le_refl _,by simp[jG],by omega,.inl rfl⟩⟩
 ·refine⟨_,_,rfl,⟨z,G,C,hn,.inr ⟨g,0,rfl,fun k x y=>⟨[.int .i64 x],⟨rfl,hx _ (List.mem_of_getElem? y)⟩,fun E=>?_,fun j u d=>?_⟩⟩⟩⟩;·have:=hM g E;omega
  match j,d with
  |0,d=>
   cases d;have m:=h.cells (g:=g) rfl k (.int .i64 x) (by rw[List.getElem?_map,y];rfl);have e:((⟨g,0,none⟩:Addr).add k)=⟨g,0+k*Rep.sz Int+0,none⟩:=by
    show _=(⟨g,0+k*1+0,none⟩:Addr);unfold Addr.add;split;·rename_i V;subst V;rfl
    simp
   rw[e]at m;exact m
theorem Iz{w:World}{a:Addr}{v:Value}(o:Obj)(h:w.cell? a=some v):(w.alloc o).cell? a=some v:=by have:=World.block_lt_of_cell? w a h;rw[World.cell?_of_block (w:=w) (Below.heap_alloc w o a.block this)];exact h
theorem IB{w:World}{a:Addr}{v:Value}(o:Obj)(h:w.cell? a=some v)(hf:w.frozen? a=false):(w.alloc o).frozen? a=false:=by have:=World.block_lt_of_cell? w a h;rw[World.frozen?_of_block (w:=w) (Below.heap_alloc w o a.block this)];exact hf
theorem cZ{w:World}{a:Addr}{v:Value}(h:w.cell? a=some v):(w.setCell a u).cell? a=some u:=World.cell?_setCell_same (w:=w) (a:=a) (v:=u) h
theorem wS{a b:Bool}(h:a=b):Ending.returned (.bool a)=Ending.returned (.bool b):=by rw[h]
theorem jL{k:IntKind}{a b:Int}(h:a=b):Ending.returned (.int k a)=Ending.returned (.int k b):=by rw[h]
theorem ahL{a b a' b':Int}(h:(a,b)=(a',b')):Ending.returned (.tuple #[.int .i64 a,.int .i64 b])=Ending.returned (.tuple #[.int .i64 a',.int .i64 b']):=by injection h with h1 h2;rw[h1,h2]
theorem aC{α:Type}(a:α):∃x,a=x:=⟨a,rfl⟩
theorem dW{α:Type}(l:List α)(k:Nat)(h:k<l.length):∃y,l[k]?=some y:=⟨_,List.getElem?_eq_getElem h⟩
abbrev CB(f:FuncId)(s:Array Value)(v:Value)(w:World):Prop:=Calls prog f s w fun e w'=>e=.returned v/\Below w.heap.size w w'
section
open Go.Shelf
section
abbrev Wd:Fence:=Fence.wide
def jC(B:Nat)(J:World->Prop):Prop:=∀W W' row,J W->W.grownBy W' row->(∀r,row=some r->B<=r/\∃o:Obj,W.heap[r]?=some o/\o.isCells=false)->J W'
structure aq(s:Nat)(M:List Nat)(w w':World):Prop where
 size:w.heap.size<=w'.heap.size
 block:∀k,k<s->k∉M->w'.heap[k]?=w.heap[k]?
section
variable {s:Nat}{M:List Nat}{w w' w'':World}
theorem aq.refl(s:Nat)(M:List Nat)(w:World):aq s M w w:=⟨Nat.le_refl _,fun _ _ _=>rfl⟩
theorem aq.trans(h:aq s M w w')(h':aq s M w' w''):aq s M w w'':=⟨Nat.le_trans h.size h'.size,fun k hk hm=>(h'.block k hk hm).trans (h.block k hk hm)⟩
theorem Keeps.to(h:Keeps M w w')(hs:s<=w.heap.size):aq s M w w':=⟨h.size,fun k hk hm=>h.block k (Nat.lt_of_lt_of_le hk hs) hm⟩
theorem Keeps.Uh(h:Keeps M w w')(h':aq s M w' w'')(hs:w.heap.size<=s):Keeps M w w'':=⟨Nat.le_trans h.size h'.size,fun k hk hm=>(h'.block k (Nat.lt_of_lt_of_le hk hs) hm).trans (h.block k hk hm)⟩
end
theorem aq.IC{s:Nat}{M:List Nat}{w w':World}(h:aq s M w w'){b o:Nat}(hb:b<s)(hm:b∉M)(hc:w.cell? ⟨b,o,none⟩=some u):w'.cell? ⟨b,o,none⟩=some u:=by rw[World.cell?_of_block (w:=w) (h.block b hb hm)];exact hc
def Yields(F:Fence)(P:Program)(g:Nat)(lb:Array Value)(w0:World)(M:List Nat)(xs:List (Array Value)):Prop:=
 ∀(l:Nat) (J:List (Array Value)->World->Prop) (Jx:World->Prop) (Jp:List PanicEntry->World->Prop) (W:World),
  Keeps M w0 W->(∀r,jC W.heap.size (J r))->jC W.heap.size Jx->J xs W->
  (∀s x rest W1,(∃pre,xs=pre++x::rest)->W.heap.size<=s->s<=W1.heap.size->aq W.heap.size M W W1->J (x::rest) W1->YieldAt F 8 P l x W1 fun e W2=>(e=.returned (.bool true)/\J rest W2/\aq s M W1 W2)\/(e=.returned (.bool false)/\Jx W2)\/(∃ch,e=.panicked ch/\Jp ch W2))->
  CallsIn F 9 P g (#[.func (.yield l) #[] #[]]++lb) W fun e W'=>((∃v,e=.returned v)/\(J [] W'\/Jx W'))\/(∃ch,e=.panicked ch/\Jp ch W')
variable {P:Program}{F:Fence}
theorem fA{a:Addr}{v:Value}(h:W.heap[D]?=some (.deferred (some []))):(W.setCell a v).heap[D]?=some (.deferred (some [])):=(KeepsOthers.setCell W a v).same D _ h rfl
theorem qg{a:Addr}{v:Value}(h:W.cell? a=some v)(hd:W.heap[D]?=some (.deferred (some []))):(W.putObj D (.deferred none)).cell? a=some v:=cell_kept h (grownBy_putObj' _ D (.deferred none)) (fun r e=>by cases e;exact⟨_,hd,rfl⟩)
theorem nV{w:World}{n:Nat}(h:Below n w W)(hn:n<=D)(hw:n<=w.heap.size):Below n w (W.putObj D (.deferred none)):=h.grown (grownBy_putObj' _ D _) (Nat.le_trans hw h.size) (fun k e=>by cases e;exact hn)
def bodyPost'(s:Nat)(M:List Nat)(I:World->Prop)(Ix:Code->World->Prop)(W:World):Exit->Act->World->Prop
 | .normal,_,W'=>aq s M W W'/\I W'
 | .ret,_,W'=>aq s M W W'/\Ix .ret W'
 | .exit id,_,W'=>aq s M W W'/\Ix (.exit id) W'
 | .goto t,_,W'=>aq s M W W'/\Ix (.goto t) W'
 | .panic _,_,_=>False
 | .outgrown,_,_=>False
theorem jC.put(h:jC B J){l:Nat}{o:Obj}(o':Obj)(hj:J W)(hB:B<=l)(hl:W.heap[l]?=some o)(ho:o.isCells=false):J (W.putObj l o'):=h W _ (some l) hj (grownBy_putObj' W l o') (fun r e=>by cases e;exact⟨hB,o,hl,ho⟩)
theorem jC.alloc(h:jC B J)(o:Obj)(hj:J W):J (W.alloc o):=h W _ none hj (World.grownBy_alloc W o none) (fun r e=>by cases e)
theorem jC.and{I:World->Prop}(h:jC B I)(k:jC B J):jC B (fun W=>I W/\J W):=fun A A' row hs hg hr=>⟨h A A' row hs.1 hg hr,k A A' row hs.2 hg hr⟩
theorem kX(B:Nat)(p:Prop):jC B (fun _=>p):=fun _ _ _ h _ _=>h
theorem Bz{α:Sort _}{I:α->World->Prop}(h:∀x,jC B (I x)):jC B (fun W=>∃x,I x W):=fun A A' row ⟨x,hx⟩ hg hr=>⟨x,h x A A' row hx hg hr⟩
theorem nO(B:Nat)(a:Addr)(v:Value):jC B (fun W=>W.cell? a=some v):=fun _ _ _ hs hg hr=>cell_kept hs hg (fun r e=>(hr r e).2)
theorem jV(B:Nat)(a:Addr)(v:Value):jC B (fun W=>W.cell? a=some v/\W.frozen? a=false):=fun _ _ _ hs hg hr=>⟨cell_kept hs.1 hg (fun r e=>(hr r e).2),(frozen_kept hs.1 hg (fun r e=>(hr r e).2)).trans hs.2⟩
theorem kY{n:Nat}{w:World}(hn:n<=w.heap.size)(hB:n<=B):jC B (fun W=>Below n w W):=fun _ _ _ hs hg hr=>hs.grown hg (Nat.le_trans hn hs.size) (fun k e=>Nat.le_trans hB (hr k e).1)
theorem m_{g:Operand}{ps:Array Tmp}{assign body:Code}{Q:Exit->Act->World->Prop}{a:Act}{w:World}
 (hro:F.round=none) {gf:Nat}{lb:Array Value}(hg:a.eval g=.func (.func gf) #[] lb) (hFg:F.fn gf) (eg:∀args w,(callFunc gf args).run P w=.ok (.enter gf args) w)
 {w0:World}{M:List Nat}{xs:List (Array Value)}(hseq:Yields F P gf lb w0 M xs) (hk0:Keeps M w0 w) (hM:∀k,k∈M->k<w.heap.size) (hps:∀x,x∈xs->x.size=ps.size)
 (I:List (Array Value)->World->Prop) (Ix:Code->World->Prop) (hI:∀r,jC w.heap.size (I r)) (hIx:∀c,jC w.heap.size (Ix c)) (h0:I xs w)
 (mO:∀l s x rest W,(∃pre,xs=pre++x::rest)->w.heap.size<=l->l<s->s<=W.heap.size->(∃r,W.heap[l]?=some (.loop r))->Keeps M w W->I (x::rest) W->
   assign.wpIn (F.inRound l) 8 P (Exit.then (fun a' W'=>aq s M W W'/\∃C:World->Prop,jC w.heap.size C/\C W'/\
    ∀W'',(∃r,W''.heap[l]?=some (.loop r))->W''.heap.size=W'.heap.size->C W''->body.wpIn (F.inRound l) 8 P (bodyPost' s M (I rest) Ix W'') a' W'') (fun _ _ _=>False))
    { tmps:=(ps.zip x).foldl (fun t (p,v)=>t.setIfInBounds p v) a.tmps,defers:= [] } W)
 (hdone:∀D W,w.heap.size<=D->I [] W->W.heap[D]?=some (.deferred (some []))->Q .normal { a with defers:={ target:=.collected D,args:=#[] }::a.defers } W)
 (hstop:∀D c W,w.heap.size<=D->Ix c W->W.heap[D]?=some (.deferred (some []))->c.wpIn F 10 P Q { a with defers:={ target:=.collected D,args:=#[] }::a.defers } W):
 (Code.rangeFunc g ps assign body).wpIn F 10 P Q a w:=by
 refine wpIn_rangeFunc ?_;intro fn an;rw[hro];obtain⟨d,N⟩:∃d:LoopState->Option Code->Loop,d=fun st pe=>{ state:=st,pending:=pe,fn,tmps:=a.tmps,params:=ps,assign,body,defers:=w.heap.size }:=⟨_,rfl⟩;obtain⟨W1,V⟩:=aC ((w.alloc (.deferred (some []))).alloc (.loop (d .ready none)));have ax:W1.heap.size=w.heap.size+2:=by rw[<-V];simp
 have ak:W1.heap[w.heap.size+1]?=some (.loop (d .ready none)):=by rw[<-V];have:=World.alloc_heap_new (w.alloc (.deferred (some []))) (.loop (d .ready none));rwa [World.size_alloc]at this
 have aj:W1.heap[w.heap.size]?=some (.deferred (some [])):=by rw[<-V];exact(Below.heap_alloc _ _ _ (by simp)).trans (World.alloc_heap_new w _)
 have ag:Keeps M w W1:=by rw[<-V];exact((Keeps.refl M w).alloc _).alloc _
 have XP:w.heap.size+1∉M/\w.heap.size∉M:=⟨fun e=>by have:=hM _ e;omega,fun e=>by have:=hM _ e;omega⟩;have Zv:∀{B:Nat}{J:World->Prop}{st:LoopState}{pe:Option Code},jC w.heap.size J->w.heap.size+2<=B->jC B (fun W=>J W/\W.heap[w.heap.size+1]?=some (.loop (d st pe))/\W.heap[w.heap.size]?=some (.deferred (some []))):=by
  intro B J st pe hJ hB A A' ae hs Y j;refine⟨hJ A A' ae hs.1 Y (fun r e=>⟨by have:=(j r e).1;omega,(j r e).2⟩),?_,?_⟩;·refine(Y.block _ (Array.getElem?_eq_some_iff.1 hs.2.1).1 (fun e=>?_)).trans hs.2.1;have:=(j _ e.symm).1;omega
  refine(Y.block _ (Array.getElem?_eq_some_iff.1 hs.2.2).1 (fun e=>?_)).trans hs.2.2;have:=(j _ e.symm).1;omega
 refine⟨w.heap.size+1, [{ target:=.collected w.heap.size,args:=#[] }],W1,{ target:=.fn (.func gf) lb,args:=#[.func (.yield (w.heap.size+1)) #[] #[]] },W1,gf,#[.func (.yield (w.heap.size+1)) #[] #[]]++lb,W1,?_,?_,?_,?_,fun _=>by omega,?_⟩;·rw[<-V,N];exact run_enterLoop_outer _ _ _ _ _
 ·simp only[resolve,hg];simp[go_sem]
 ·intro f' af;simp[Target.leads]at af;subst af;exact hFg
 ·simp[invoke,go_sem,eg]
 ·refine(hseq (w.heap.size+1)
    (fun r W=>I r W/\W.heap[w.heap.size+1]?=some (.loop (d .ready none))/\W.heap[w.heap.size]?=some (.deferred (some [])))
    (fun W=>∃c,Ix c W/\W.heap[w.heap.size+1]?=some (.loop (d .done (some c)))/\W.heap[w.heap.size]?=some (.deferred (some []))) (fun _ _=>False)
    W1 (hk0.trans ag) (fun r=>Zv (hI r) (by omega))
    (fun A A' ae hs Y j=>by obtain⟨c,hc⟩:=hs;exact⟨c,Zv (B:=W1.heap.size) (hIx c) (by omega) A A' ae hc Y j⟩)
    ⟨by rw[<-V];exact(hI xs).alloc _ ((hI xs).alloc _ h0),ak,aj⟩
    ?_).mono ?_
  ·
   rintro s x rest W ab aw av ao ⟨Z,H,X⟩;have au:=ab;obtain⟨pre,ab⟩:=ab;have hy:=run_yield (P:=P) (args:=x) H (by rw[N];exact hps x (by rw[ab];simp));rw[N]at hy;have ap:Keeps M w W:=ag.Uh ao (by omega);refine⟨fn,_,assign,body,hy,roundIn_of_wpIn an (wpIn_mono (mO _ s x rest W au (by omega) (by omega) av ⟨_,H⟩ ap Z) ?_)⟩;clear hy;intro e a' Wa m
   cases e with
   |normal=>
    obtain⟨aa,C,hC,ai,hb⟩:=m;have ad:=(aa.block _ (by omega) XP.1).trans H;have al:=(aa.block _ (by omega) XP.2).trans X;have ar:w.heap.size+1<Wa.heap.size:=(Array.getElem?_eq_some_iff.1 ad).1;refine⟨_,run_beginRound ad (by rw[N]),?_⟩;have ah:(Wa.putObj (w.heap.size+1) (.loop { d .ready none with state:=.busy })).heap[w.heap.size+1]?=some (.loop { d .ready none with state:=.busy }):=World.putObj_heap_same ar;have am:(Wa.putObj (w.heap.size+1) (.loop { d .ready none with state:=.busy })).heap[w.heap.size]?=some (.deferred (some [])):=(World.putObj_heap_other (by omega)).trans al;refine wpIn_mono (hb _ ⟨_,ah⟩ World.putObj_size (hC.put _ ai (by omega) ad rfl)) ?_
    have fin:∀(G:Option Code) (y:World),aq s M (Wa.putObj (w.heap.size+1) (.loop { d .ready none with state:=.busy })) y->
     (Instr.endRound (w.heap.size+1) G).run P y=.ok (.bool G.isNone) (y.putObj (w.heap.size+1) (.loop (d (if G.isNone then .ready else .done) G)))/\
     y.heap[w.heap.size+1]?=some (.loop { d .ready none with state:=.busy })/\
     (y.putObj (w.heap.size+1) (.loop (d (if G.isNone then .ready else .done) G))).heap[w.heap.size+1]?=some (.loop (d (if G.isNone then .ready else .done) G))/\
     (y.putObj (w.heap.size+1) (.loop (d (if G.isNone then .ready else .done) G))).heap[w.heap.size]?=some (.deferred (some [])):=fun G y z=>by
     have E:=(z.block _ (by omega) XP.1).trans ah;have:=run_endRound (P:=P) G E;rw[N]at this |-;exact⟨this,by rw[N]at E;exact E,World.putObj_heap_same (Array.getElem?_eq_some_iff.1 E).1,(World.putObj_heap_other (by omega)).trans ((z.block _ (by omega) XP.2).trans am)⟩
    rintro e a3 y m
    cases e with
    |normal=>
     obtain⟨z,T⟩:=m;obtain⟨j,E,O,S⟩:=fin none y z;refine⟨_,_,j,.inl ⟨rfl,⟨(hI rest).put _ T (by omega) E rfl,O,S⟩,?_⟩⟩;refine⟨?_,fun k hk hm=>?_⟩;·have h1:=aa.size;have h2:=z.size;simp only[World.putObj_size]at h2 |-;omega
     ·by_cases ac:k=w.heap.size+1;·rw[ac,O,H];rfl
      rw[World.putObj_heap_other ac,z.block k hk hm,World.putObj_heap_other ac];exact aa.block k hk hm
    |ret=>obtain⟨z,T⟩:=m;obtain⟨j,E,O,S⟩:=fin (some .ret) y z;exact⟨_,_,j,.inr (.inl ⟨rfl,.ret,(hIx _).put _ T (by omega) E rfl,O,S⟩)⟩
    |exit id=>obtain⟨z,T⟩:=m;obtain⟨j,E,O,S⟩:=fin (some (.exit id)) y z;exact⟨_,_,j,.inr (.inl ⟨rfl,.exit id,(hIx _).put _ T (by omega) E rfl,O,S⟩)⟩
    |goto t=>obtain⟨z,T⟩:=m;obtain⟨j,E,O,S⟩:=fin (some (.goto t)) y z;exact⟨_,_,j,.inr (.inl ⟨rfl,.goto t,(hIx _).put _ T (by omega) E rfl,O,S⟩)⟩
    |panic ch=>exact m.elim
    |outgrown=>exact m.elim
   |exit id=>exact m.elim
   |goto t=>exact m.elim
   |ret=>exact m.elim
   |panic chain=>exact m.elim
   |outgrown=>exact m.elim
  ·
   rintro e W2 (⟨⟨v,rfl⟩,(⟨Z,H,X⟩|⟨c,Z,H,X⟩)⟩|⟨ch,_,hf⟩);·exact⟨none,_,by exact YC,hdone _ _ (Nat.le_refl _) ((hI []).put _ Z (by omega) H rfl) ((World.putObj_heap_other (by omega)).trans X)⟩
   ·exact⟨some c,_,by exact YC,hstop _ c _ (Nat.le_refl _) ((hIx c).put _ Z (by omega) H rfl) ((World.putObj_heap_other (by omega)).trans X)⟩
   ·exact hf.elim
end
section
variable {F:Fence}{n:Nat}{P:Program}{Mr:List Nat}{md:Region.Mode}{ops:Array Oper}{Q:Exit→Act→World→Prop}
def nX(P:Program)(Mr:List Nat)(o:Oper)(a:Act)(w:World)(v:Value):Prop:=∀w',Keeps Mr w w'->(execOp a.eval o).run P w'=.ok (.value v) w'
theorem uf{P:Program}{Mr:List Nat}{o:Oper}{a:Act}{w:World}{v:Value}(h:∀w',Keeps Mr w w'->∀Z:Result Next->Prop,Z (.ok (.value v) w')->Z ((execOp a.eval o).run P w')):nX P Mr o a w v:=fun w' hk=>h w' hk (fun r=>r=.ok (.value v) w') rfl
def dw(P:Program)(Mr:List Nat)(ops:Array Oper)(o:Oper)(v:Value)(a:Act)(w:World):Prop:=(Region.wanted o (yielded ops a.tmps)=true/\nX P Mr o a w v)\/(Region.wanted o (yielded ops a.tmps)=false/\v=undef)
def Oper.mild(o:Oper):Bool:=match o.op with
 | .call { callee:=.builtin _,.. }=>true
 | .call _| .defer _=>false
 |_=>true
theorem jP{o:Oper}(h:Oper.mild o=true)(w:World)(ρ:Operand->Value):∀f,o.about P w ρ=some f->F.fn f:=by
 intro f d;unfold Oper.mild at h;unfold Oper.about at d;split at d
 ·rename_i c hc;rw[hc]at h;obtain⟨e,args,j⟩:=c
  cases e with
  |builtin b=>simp[resolve,pure,Target.leads]at d
  |value f=>simp at h
  |invoke r m=>simp at h
 cases d
theorem sF{o:Oper}(h:Oper.mild o=true)(r:Option Nat)(ρ:Operand->Value):o.semAt r ρ=execOp ρ o:=Oper.semAt_eq _ _ _ (fun c e=>by unfold Oper.mild at h;rw[e]at h;simp at h)
theorem dw.wpOpIn{i:Nat}{o:Oper}{v:Value}{a:Act}{w:World}(hm:Oper.mild o=true)(hi:ops[i]?=some o)(hy:dw P Mr ops o v a w)
 {K:Act->World->Prop}(h:K (a.put o.dst v) w):wpOpIn F n P ops Q i K a w:=by
 unfold Go.wpOpIn;simp only[hi];rcases hy with⟨I,d⟩|⟨I,rfl⟩;·simp only[I,if_true,Oper.wpIn,sF hm,d w (Keeps.refl _ _),Oper.uponIn];exact⟨jP hm w _,h⟩
 ·simp only[I,Bool.false_eq_true,if_false];exact⟨jP hm w _,h⟩
theorem dw.of_same{o:Oper}{v:Value}{a a':Act}{w:World}(hy:dw P Mr ops o v a w)(he:execOp a'.eval o=execOp a.eval o)
 (hw:Region.wanted o (yielded ops a'.tmps)=Region.wanted o (yielded ops a.tmps)):dw P Mr ops o v a' w:=by
 unfold dw nX at*;rw[he,hw];exact hy
theorem dw.later{o:Oper}{v:Value}{a:Act}{w w':World}(hy:dw P Mr ops o v a w)(hk:Keeps Mr w w'):dw P Mr ops o v a w':=by
 rcases hy with⟨I,e⟩|h;·exact .inl ⟨I,fun j d=>e j (hk.trans d)⟩
 exact .inr h
theorem sG{j:Nat}{oj:Oper}{v:Value}(hnd:∀c,oj.op≠.defer c)(hj:ops[j]?=some oj)(hap:oi.apart ops oj=true)
 (hsi:∀cs b,oi.op≠.select cs b) (hsj:∀cs b,oj.op≠.select cs b)
 (hQ:∀c a w,Q (.panic c) (a.put oi.dst v) w->Q (.panic c) a w) {K:Act->World->Prop}{a:Act}{w:World}
 (hy:dw P Mr ops oi v a W) (h:wpOpIn F n P ops Q j K (a.put oi.dst v) w):
 wpOpIn F n P ops Q j (fun a' w'=>dw P Mr ops oi v a' W/\K (a'.put oi.dst v) w') a w:=by
 obtain⟨z,y,C⟩:=Oper.apart_spec hap;have keep:∀(a:Act),dw P Mr ops oi v a W->∀u,dw P Mr ops oi v (a.put oj.dst u) W:=fun a hy u=>hy.of_same (execOp_put oi hsi a oj.dst u C) (wanted_put oi a oj.dst u C);unfold wpOpIn at*
 simp only[hj]at*
 rw[wanted_put oj a oi.dst v z,about_put oj w a oi.dst v z]at h;split
 ·rename_i hw;simp only[hw,if_true]at h;unfold Oper.wpIn at*;rw[about_put oj w a oi.dst v z]at h;refine⟨h.1,?_⟩;have h:=h.2;rw[Oper.semAt_eq _ _ _ hnd,execOp_put oj hsj a oi.dst v z]at h;rw[Oper.semAt_eq _ _ _ hnd];generalize (execOp a.eval oj).run P w=r at*
  cases r with
  |ok x w'=>
   cases x<;>simp only[Oper.uponIn]at h |-
   case value u=>exact⟨keep a hy u,by rw[<-Act.put_comm a v u y];exact h⟩
   case skip=>exact⟨keep a hy _,by rw[<-Act.put_comm a v undef y];exact h⟩
   case defer d=>refine⟨keep { a with defers:=d::a.defers } (hy.of_same rfl rfl) _,?_⟩;rw[<-Act.put_comm _ v undef y,<-Act.put_defers];exact h
   case enter f args=>refine⟨h.1,CallsIn.mono h.2 fun e w'' m=>?_⟩;exact FK
   case row row args=>exact⟨h.1,RowsIn.mono h.2 fun u w'' m=>⟨keep a hy u,by rw[<-Act.put_comm a v u y];exact m⟩⟩
   case round l f tmps assign body=>refine⟨h.1,RoundIn.mono h.2 fun e w'' m=>?_⟩;exact FK
  |halt x w'=>exact Xd
 ·rename_i hw;simp only[hw]at h;exact⟨h.1,keep a hy _,by rw[<-Act.put_comm a v undef y];exact h.2⟩
def jQ(F:Fence)(n:Nat)(P:Program)(Mr:List Nat)(md:Region.Mode)(ops:Array Oper)(Q:Exit->Act->World->Prop)(n0:Nat)(L:Array Bool->Act->World->Prop):Nat->Array Bool->Act->World->Prop
 |0,listed,a,w=>L listed a w
 |f+1,listed,a,w=>
  Region.ready md ops listed≠ []/\
  ∀i∈Region.ready md ops listed,i<n0/\wpOpIn F n P ops Q i (fun a' w'=>Keeps Mr w w'/\jQ F n P Mr md ops Q n0 L f (listed.setIfInBounds i true) a' w') a w
theorem iK{n0 g:Nat}{L:Array Bool->Act->World->Prop}(hL:∀listed a w,L listed a w->wpAnyIn F n P md ops Q g listed a w):
 ∀(f:Nat) (listed:Array Bool) (a:Act) (w:World),jQ F n P Mr md ops Q n0 L f listed a w->wpAnyIn F n P md ops Q (f+g) listed a w
 |0,listed,a,w,h=>by rw[Nat.zero_add];exact hL _ _ _ h
 |f+1,listed,a,w,h=>by exact Hu
def uh(ops:Array Oper):Bool:=ops.all fun o=>match o.op with| .defer _=>false|_=>true
theorem wU(h:uh ops=true)(j:Nat)(o:Oper)(ho:ops[j]?=some o)(c:Call):o.op≠.defer c:=by intro d;have:=Array.all_eq_true_iff_forall_mem.1 h o (Array.mem_of_getElem? ho);simp[d]at this
def kZ(md:Region.Mode)(ops:Array Oper)(n0:Nat):Bool:=decide (ops.size<=n0)||(Region.sinkB md ops n0&&Region.chainB md ops n0)
theorem wV{i:Nat}(ht:kZ md ops n0=true)(inv:HeadInv md ops n0 listed)(hin:i<n0)(hun:listed.getD i true=false):
 ∀t,t∈Region.ready md ops listed->t<n0:=by
 intro t d;rcases Nat.lt_or_ge t n0 with h|h;·exact h
 ·obtain⟨_,y,m,_⟩:=mem_ready.1 d;have x:t<ops.size:=(Array.getElem?_eq_some_iff.1 m).1;simp only[kZ,Bool.or_eq_true,decide_eq_true_eq,Bool.and_eq_true]at ht;rcases ht with ht|⟨e,j⟩;·omega
  exact absurd d (tail_waits e j (by omega) inv _ i rfl hin hun t h)
theorem ni{i:Nat}{v:Value}{L:Array Bool->Act->World->Prop}(hm:Oper.mild oi=true)(hi:ops[i]?=some oi)
 (hsel:∀(j:Nat) (o:Oper) cs b,ops[j]?=some o->o.op≠.select cs b) (hdef:uh ops=true)
 (hQ:∀c a w,Q (.panic c) (a.put oi.dst v) w->Q (.panic c) a w)
 (ht:kZ md ops n0=true) (hin:i<n0) (hdone:∀listed a w,L listed a w->∀j∈Region.ready md ops listed,n0<=j):
 ∀(f:Nat) (listed:Array Bool) (a:Act) (w:World),HeadInv md ops n0 listed->
  (∀j oj,ops[j]?=some oj->j≠i->listed.getD j true=false->(∀e∈oj.after,Region.binds md e=true->e.on≠i)->oi.apart ops oj=true)->
  i∈Region.ready md ops listed->dw P Mr ops oi v a w->
  jQ F n P Mr md ops Q n0 L f (listed.setIfInBounds i true) (a.put oi.dst v) w->jQ F n P Mr md ops Q n0 L (f+1) listed a w:=by
 intro f
 induction f with
 |zero=>
  intro listed a w O _ m N H;have x:=(mem_ready.1 m).1;refine⟨fun h=>(by rw[h]at m;cases m),fun j C=>?_⟩;have G:=wV ht O hin x j C;refine⟨G,?_⟩;by_cases d:j=i;·subst d;exact N.wpOpIn hm hi ⟨Keeps.refl _ _,H⟩
  ·have:=hdone _ _ _ H j (ready_mono C d);omega
 |succ f ih=>
  intro listed a w O S m N H;have x:=(mem_ready.1 m).1;refine⟨fun h=>(by rw[h]at m;cases m),fun j C=>?_⟩;have G:=wV ht O hin x j C;refine⟨G,?_⟩;by_cases d:j=i;·subst d;exact N.wpOpIn hm hi ⟨Keeps.refl _ _,H⟩
  ·have z:=(H.2 j (ready_mono C d)).2;obtain⟨V,oj,I,Y⟩:=mem_ready.1 C;have ad:∀e∈oj.after,Region.binds md e=true->e.on≠i:=fun e Z hb aa=>by
    have z:=Y e Z hb;rw[aa,getD_both x]at z;cases z
   have X:=sG (W:=w) (wU hdef j oj I) I (S j oj I d V ad) (fun cs b=>hsel i oi cs b hi) (fun cs b=>hsel j oj cs b I) hQ N z
   have ab:∀k y,ops[k]?=some y->k≠i->(listed.setIfInBounds j true).getD k true=false->
    (∀e∈y.after,Region.binds md e=true->e.on≠i)->oi.apart ops y=true:=fun k y hk ac x hno=>by
    refine S k y hk ac ?_ hno;by_cases T:j=k;·subst T;exact V
    ·rw[getD_set_ne true T]at x;exact x
   refine wpOpIn_mono (fun a' w' E=>⟨E.2.1,ih (listed.setIfInBounds j true) a' w' (O.set C G) ab (ready_mono m (Ne.symm d)) (E.1.later E.2.1) ?_⟩) X;rw[Array.setIfInBounds_comm _ _ d];exact E.2.2
def jH(F:Fence)(n:Nat)(P:Program)(Mr:List Nat)(ops:Array Oper)(Q:Exit->Act->World->Prop)(L:Act->World->Prop):List Nat->Act->World->Prop
 | [],a,w=>L a w
 |i::rest,a,w=>match ops[i]? with
  |none=>False
  |some o=>if Oper.mild o then(if Region.wanted o (yielded ops a.tmps)then ∃v,nX P Mr o a w v/\jH F n P Mr ops Q L rest (a.put o.dst v) w else jH F n P Mr ops Q L rest (a.put o.dst undef) w)else wpOpIn F n P ops Q i (fun a' w'=>Keeps Mr w w'/\jH F n P Mr ops Q L rest a' w') a w
def BP(md:Region.Mode)(ops:Array Oper)(n0:Nat):List Nat->Array Bool->Bool
 | [],listed=>(Region.ready md ops listed).all (fun j=>decide (n0<=j))
 |i::rest,listed=>decide (i<n0)&&(Region.ready md ops listed).contains i&&
    (match ops[i]? with
     |none=>false
     |some o=>if Oper.mild o then Region.free md ops listed i else(Region.ready md ops listed).all (fun j=>j==i))&&BP md ops n0 rest (listed.setIfInBounds i true)
def wW:List Nat->Array Bool->Array Bool
 | [],l=>l
 |i::rest,l=>wW rest (l.setIfInBounds i true)
theorem lQ{n0:Nat}{L:Act->World->Prop}(hsel:Region.noSelect ops=true)(hdef:uh ops=true)
 (hQ:∀d v c a w,Q (.panic c) (a.put d v) w->Q (.panic c) a w) (ht:kZ md ops n0=true):
 ∀(ord:List Nat) (listed:Array Bool) (a:Act) (w:World),HeadInv md ops n0 listed->BP md ops n0 ord listed=true->jH F n P Mr ops Q L ord a w->jQ F n P Mr md ops Q n0 (fun l a w=>l=wW ord listed/\L a w) ord.length listed a w
 | [],listed,a,w,_,_,h=>⟨rfl,h⟩
 |i::rest,listed,a,w,inv,hok,h=>by
  simp only[BP,Bool.and_eq_true,decide_eq_true_eq]at hok;obtain⟨⟨⟨hin,hr⟩,hk⟩,hrest⟩:=hok;have hr':i∈Region.ready md ops listed:=by simpa using hr
  have z:=inv.set hr' hin;simp only[jH]at h
  cases m:ops[i]? with
  |none=>rw[m]at h;exact h.elim
  |some o=>
   simp only[m]at h hk;have N:∀(l:Array Bool) (a:Act) (w:World),(l=wW rest (listed.setIfInBounds i true)/\L a w)->∀j∈Region.ready md ops l,n0<=j:=by
    rintro l a w ⟨rfl,_⟩ j C;have:∀(ord:List Nat) (listed:Array Bool),BP md ops n0 ord listed=true->∀j∈Region.ready md ops (wW ord listed),n0<=j:=by
     intro ord
     induction ord with
     |nil=>intro listed h j C;simp only[BP,List.all_eq_true]at h;simpa using h j C
     |cons k r ih=>intro listed h j C;simp only[BP,Bool.and_eq_true]at h;exact ih _ h.2 j C
    exact this rest _ hrest j C
   by_cases x:Oper.mild o=true
   ·simp only[x,if_true]at h hk;have y:∃v,dw P Mr ops o v a w/\jH F n P Mr ops Q L rest (a.put o.dst v) w:=by
     by_cases I:Region.wanted o (yielded ops a.tmps)=true;·simp only[I,if_true]at h;obtain⟨v,G,H⟩:=h;exact⟨v,.inl ⟨I,G⟩,H⟩
     simp only[I]at h;exact⟨undef,.inr ⟨by simpa using I,rfl⟩,h⟩
    obtain⟨v,y,hx⟩:=y;exact ni x m (Region.noSelect_spec hsel) hdef (fun c a w=>hQ _ _ c a w) ht hin N _ listed a w inv (Region.free_spec m hk) hr' y (lQ hsel hdef hQ ht rest _ _ _ z hrest hx)
   ·rw[if_neg x]at h hk;refine⟨fun e=>(by rw[e]at hr';cases hr'),fun j C=>?_⟩;have O:j=i:=by simpa using List.all_eq_true.1 hk j C
    subst O;exact⟨hin,wpOpIn_mono (fun a' w' E=>⟨E.1,lQ hsel hdef hQ ht rest _ _ _ z hrest E.2⟩) h⟩
def yL(md:Region.Mode)(ops:Array Oper):Nat->Nat->Array Bool->Bool
 |0,_,listed=>(Region.ready md ops listed).isEmpty
 |g+1,k,listed=>(Region.ready md ops listed== [k])&&yL md ops g (k+1) (listed.setIfInBounds k true)
theorem iT:∀(g k:Nat) (listed:Array Bool) (a:Act) (w:World),yL md ops g k listed=true->wpOpsIn F n P ops Q (List.range' k g) a w->wpAnyIn F n P md ops Q g listed a w
 |0,k,listed,a,w,h,hw=>⟨by simpa[yL]using h,hw⟩
 |g+1,k,listed,a,w,h,hw=>by
  simp only[yL,Bool.and_eq_true,beq_iff_eq]at h;refine wpAnyIn_all h.1 (by simp) (fun i hi=>?_);obtain rfl:i=k:=by simpa using hi
  rw[List.range'_succ,wpOpsIn_cons]at hw;exact wpOpIn_mono (fun a' w' d=>iT g (i+1) _ a' w' h.2 d) hw
def FM(ops:Array Oper)(n0:Nat)(ord:List Nat):Bool:=Region.noSelect ops&&uh ops&&kZ .any ops n0&&BP .any ops n0 ord (Array.replicate ops.size false)&&decide (ord.length=n0)&&decide (n0<=ops.size)&&yL .any ops (ops.size-n0) n0 (wW ord (Array.replicate ops.size false))
theorem Ad(Mr:List Nat){a:Act}{w:World}(n0:Nat)(ord:List Nat)(hm:P.follows .mixedOrders=true)(hok:FM ops n0 ord=true)
 (hQ:∀d v c a w,Q (.panic c) (a.put d v) w->Q (.panic c) a w)
 (h:jH F n P Mr ops Q (fun a' w'=>wpOpsIn F n P ops Q (List.range' n0 (ops.size-n0)) a' w') ord a { w with drawn:=w.drawn+1 }):(Code.region id ops true).wpIn F n P Q a w:=by
 simp only[FM,Bool.and_eq_true,decide_eq_true_eq]at hok;obtain⟨⟨⟨⟨⟨⟨x,y⟩,h3⟩,h4⟩,h5⟩,h6⟩,h7⟩:=hok;have C:HeadInv .any ops n0 (Array.replicate ops.size false):=⟨by simp,fun j E _ e=>(by rw[getD_replicate_false]at e;cases e),fun t _ X=>by simp[X]⟩;have m:=lQ (F:=F) (n:=n) (P:=P) (md:=.any) (Q:=Q) x y hQ h3 ord _ a _ C h4 h;rw[h5]at m;refine wpIn_region_any hm ?_;have:=iK (g:=ops.size-n0) (fun l a w e=>by obtain⟨rfl,z⟩:=e;exact iT _ _ _ a w h7 z) _ _ _ _ m
 rwa [show n0+(ops.size-n0)=ops.size by omega]at this
def cu(Q:Exit->Act->World->Prop):Exit->Act->World->Prop
 | .normal,a,w=>Q .normal a w
 |_,_,_=>False
theorem BQ(Mr:List Nat){a:Act}{w:World}(n0:Nat)(ord:List Nat)(hm:P.follows .mixedOrders=true)(hok:FM ops n0 ord=true)
 (h:jH F n P Mr ops (cu Q) (fun a' w'=>wpOpsIn F n P ops (cu Q) (List.range' n0 (ops.size-n0)) a' w') ord a w.drew):(Code.region id ops true).wpIn F n P Q a w:=
 wpIn_mono (Ad Mr n0 ord hm hok (fun _ _ _ _ _ h=>h) h) (fun e a w h=>by cases e<;>first|exact h|exact h.elim)
theorem ak(Mr:List Nat){a:Act}{w:World}(ord:List Nat)(hm:P.follows .mixedOrders=true)(hok:FM ops ops.size ord=true)
 (h:jH F n P Mr ops (cu Q) (fun a' w'=>Q .normal a' w') ord a w.drew):(Code.region id ops true).wpIn F n P Q a w:=
 BQ Mr ops.size ord hm hok (by rw[Nat.sub_self];exact h)
section
variable {L:Act→World→Prop}{i:Nat}{rest:List Nat}{o:Oper}{a:Act}{w:World}
def kG(F:Fence)(n:Nat)(P:Program)(Mr:List Nat)(ops:Array Oper)(Q:Exit->Act->World->Prop)(i:Nat)(K:Act->World->Prop)(a:Act)(w:World):Prop:=
 match ops[i]? with
 |none=>False
 |some o=>if Oper.mild o then(if Region.wanted o (yielded ops a.tmps)then ∃v,nX P Mr o a w v/\K (a.put o.dst v) w else K (a.put o.dst undef) w)else if Region.wanted o (yielded ops a.tmps)then o.wpIn F n P a w (fun a' w'=>Keeps Mr w w'/\K a' w') Q else(∀f,o.about P w a.eval=some f->F.fn f)/\K (a.put o.dst undef) w
theorem aH(h:∀K:Act->World->Prop,(∀a w,jH F n P Mr ops Q L rest a w->K a w)->kG F n P Mr ops Q i K a w):jH F n P Mr ops Q L (i::rest) a w:=by
 have h:=h _ (fun _ _ h=>h);unfold kG at h;unfold jH
 cases d:ops[i]? with
 |none=>rw[d]at h;exact h
 |some o=>
  simp only[d]at h |-;by_cases e:Oper.mild o=true;·simp only[e,if_true]at h |-;exact h
  ·rw[if_neg e]at h |-;unfold wpOpIn;simp only[d];by_cases I:Region.wanted o (yielded ops a.tmps)=true;·simp only[I,if_true]at h |-;exact h
   rw[if_neg I]at h |-;exact⟨h.1,Keeps.refl _ _,h.2⟩
section
variable {l:List Oper}{K:Act→World→Prop}{o:Oper}
theorem IE(ho:l[i]?=some o)(hm:Oper.mild o=true)(hw:Region.wanted o (yielded l.toArray a.tmps)=true)(h:∃v,(∀w',Keeps Mr w w'->∀Z:Result Next->Prop,Z (.ok (.value v) w')->Z ((execOp a.eval o).run P w'))/\K (a.put o.dst v) w):
 kG F n P Mr l.toArray Q i K a w:=by
 unfold kG;rw[List.getElem?_toArray,ho];simp only[hm,hw,if_true];exact h.imp fun v d=>⟨uf d.1,d.2⟩
theorem IG(ho:l[i]?=some o)(hm:Oper.mild o=true)(hw:Region.wanted o (yielded l.toArray a.tmps)=false)(hk:K (a.put o.dst undef) w):
 kG F n P Mr l.toArray Q i K a w:=by
 unfold kG;rw[List.getElem?_toArray,ho];simp only[hm,hw,if_true];exact hk
theorem gQ(h:o.guard=none):Region.wanted o ys=true:=by simp[Region.wanted,h]
theorem je{b:Bool}(h:o.guard=some (g,b))(hy:ys g=some b):Region.wanted o ys=true:=by simp[Region.wanted,h,hy]
theorem yM{b:Bool}(h:o.guard=some (g,b))(hy:ys g=some (!b)):Region.wanted o ys=false:=by cases b<;>simp[Region.wanted,h,hy]
theorem dU{b:Bool}(h:o.guard=some (g,b))(hy:ys g=none):Region.wanted o ys=false:=by cases b<;>simp[Region.wanted,h,hy]
theorem aA(ho:l[i]?=some o)(hm:Oper.mild o=false)(hw:Region.wanted o (yielded l.toArray a.tmps)=true)
 (h:∀K':Act->World->Prop,(∀a' w',Keeps Mr w w'/\K a' w'->K' a' w')->o.wpIn F n P a w K' Q):
 kG F n P Mr l.toArray Q i K a w:=by
 unfold kG;rw[List.getElem?_toArray,ho];simp only[hm,hw,if_true];exact h _ (fun _ _ h=>h)
theorem yN(ho:l[i]?=some o)(hm:Oper.mild o=false)(hw:Region.wanted o (yielded l.toArray a.tmps)=false)(hF:∀f,F.fn f)(hk:K (a.put o.dst undef) w):
 kG F n P Mr l.toArray Q i K a w:=by
 unfold kG;rw[List.getElem?_toArray,ho];simp only[hm,hw];exact⟨fun f _=>hF f,hk⟩
end
theorem aK(h:L a w):jH F n P Mr ops Q L [] a w:=h
def wX(F:Fence)(n:Nat)(P:Program)(ops:Array Oper)(Q:Exit->Act->World->Prop)(i:Nat)(K:Act->World->Prop)(a:Act)(w:World):Prop:=
 match ops[i]? with
 |none=>K a w
 |some o=>if Region.wanted o (yielded ops a.tmps)then o.wpIn F n P a w K Q else(∀f,o.about P w a.eval=some f->F.fn f)/\K (a.put o.dst undef) w
theorem uj(h:∀K:Act->World->Prop,(∀a' w',wpOpsIn F n P ops Q (List.range' (k+1) g) a' w'->K a' w')->wX F n P ops Q k K a w):wpOpsIn F n P ops Q (List.range' k (g+1)) a w:=by rw[List.range'_succ,wpOpsIn_cons];exact h _ (fun _ _ h=>h)
theorem oP{l:List Oper}{K:Act->World->Prop}{o:Oper}(ho:l[i]?=some o)(hw:Region.wanted o (yielded l.toArray a.tmps)=true)
 (h:∀K':Act->World->Prop,(∀a' w',K a' w'->K' a' w')->o.wpIn F n P a w K' Q):wX F n P l.toArray Q i K a w:=by
 unfold wX;exact Xc
theorem tail_nil(k:Nat)(h:Q .normal a w):wpOpsIn F n P ops Q (List.range' k 0) a w:=h
end
end
section
variable {F:Fence}{n:Nat}{P:Program}{Mr:List Nat}{Q:Exit→Act→World→Prop}
def agq(md:Region.Mode)(ops:Array Oper)(n0:Nat)(listed:Array Bool):Bool:=
 (listed.size==ops.size)&&(List.range ops.size).all (fun j=> !listed.getD j false||(match ops[j]? with|some oj=>oj.after.all (fun e=> !Region.binds md e||listed.getD e.on false)|none=>true))&&
 (List.range ops.size).all (fun t=>decide (t<n0)|| !(listed.getD t true))
theorem JV{md:Region.Mode}{ops:Array Oper}(h:agq md ops n0 listed=true):HeadInv md ops n0 listed:=by
 simp only[agq,Bool.and_eq_true,beq_iff_eq]at h;obtain⟨⟨d,m⟩,h3⟩:=h;refine⟨d,fun j G C y e x hb=>?_,fun t X E=>?_⟩;·have:=List.all_eq_true.1 m j (List.mem_range.2 (Array.getElem?_eq_some_iff.1 C).1);rw[y,C]at this;simp only[Bool.not_true,Bool.false_or]at this;have:=Array.all_eq_true_iff_forall_mem.1 this e x;simpa[hb]using this
 have:=List.all_eq_true.1 h3 t (List.mem_range.2 E);have z:¬t<n0:=by omega
 simpa[z]using this
def qO(ops:Array Oper)(n0:Nat):Array Bool:=((List.range ops.size).map (fun j=>decide (j<n0))).toArray
def Lh(F:Fence)(n:Nat)(P:Program)(ops:Array Oper)(Q:Exit->Act->World->Prop)(n0:Nat):Array Bool->Act->World->Prop:=fun l a w=>l=qO ops n0/\wpOpsIn F n P ops Q (List.range' n0 (ops.size-n0)) a w
def qh(F:Fence)(n:Nat)(P:Program)(Mr:List Nat)(ops:Array Oper)(Q:Exit->Act->World->Prop)(n0 f:Nat)(listed:Array Bool)(a:Act)(w:World):Prop:=jQ F n P Mr .any ops Q n0 (Lh F n P ops Q n0) f listed a w
def um(ops:Array Oper)(n0:Nat):Bool:=decide (n0<=ops.size)&&yL .any ops (ops.size-n0) n0 (qO ops n0)
theorem BR(Mr:List Nat){ops:Array Oper}{a:Act}{w:World}(n0:Nat)(hm:P.follows .mixedOrders=true)(hok:um ops n0=true)
 (h:qh F n P Mr ops Q n0 n0 (Array.replicate ops.size false) a w.drew):(Code.region id ops true).wpIn F n P Q a w:=by
 simp only[um,Bool.and_eq_true,decide_eq_true_eq]at hok;refine wpIn_region_any hm ?_;have:=iK (g:=ops.size-n0) (fun l a w e=>by obtain⟨rfl,d⟩:=e;exact iT _ _ _ a w hok.2 d) _ _ _ _ h
 rwa [show n0+(ops.size-n0)=ops.size by omega]at this
theorem aP(Mr:List Nat){ops:Array Oper}{a:Act}{w:World}(n0:Nat)(hm:P.follows .mixedOrders=true)(hok:um ops n0=true)
 (h:qh F n P Mr ops (cu Q) n0 n0 (Array.replicate ops.size false) a w.drew):(Code.region id ops true).wpIn F n P Q a w:=
 wpIn_mono (BR Mr n0 hm hok h) (fun e a w h=>by cases e<;>first|exact h|exact h.elim)
theorem BU(d:Option Tmp)(v:Value)(c:List PanicEntry)(a:Act)(w:World)(h:cu Q (.panic c) (a.put d v) w):cu Q (.panic c) a w:=h.elim
theorem FN{ops:Array Oper}{a:Act}{w:World}(g:Nat)(hl:listed=qO ops n0)(hg:ops.size-n0=g)(h:wpOpsIn F n P ops Q (List.range' n0 g) a w):qh F n P Mr ops Q n0 0 listed a w:=⟨hl,by rw[hg];exact h⟩
def yO(ops:Array Oper)(n0:Nat)(listed:Array Bool)(i:Nat):Bool:=agq .any ops n0 listed&&decide (i<n0)&&(Region.ready .any ops listed).contains i&&Region.free .any ops listed i&&Region.noSelect ops&&uh ops&&kZ .any ops n0&&(Region.ready .any ops (qO ops n0)).all (fun j=>decide (n0<=j))
theorem Nz{l:List Oper}{a:Act}{w:World}(i:Nat){o:Oper}(hok:yO l.toArray n0 listed i=true)(ho:l[i]?=some o)(hm:Oper.mild o=true)
 (hw:Region.wanted o (yielded l.toArray a.tmps)=true) (hQ:∀d v c a w,Q (.panic c) (a.put d v) w->Q (.panic c) a w)
 (h:∃v,(∀w',Keeps Mr w w'->∀Z:Result Next->Prop,Z (.ok (.value v) w')->Z ((execOp a.eval o).run P w'))/\qh F n P Mr l.toArray Q n0 f (listed.setIfInBounds i true) (a.put o.dst v) w):
 qh F n P Mr l.toArray Q n0 (f+1) listed a w:=by
 simp only[yO,Bool.and_eq_true,decide_eq_true_eq]at hok;obtain⟨⟨⟨⟨⟨⟨⟨m,x⟩,h3⟩,h4⟩,h5⟩,h6⟩,h7⟩,h8⟩:=hok;have e:l.toArray[i]?=some o:=by rw[List.getElem?_toArray];exact ho
 obtain⟨v,z,hx⟩:=h;exact ni hm e (Region.noSelect_spec h5) h6 (fun c a w=>hQ _ _ c a w) h7 x (fun E a w y j C=>by obtain⟨rfl,_⟩:=y;simpa using List.all_eq_true.1 h8 j C) _ listed a w (JV m) (Region.free_spec e h4) (by simpa using h3) (.inl ⟨hw,uf z⟩) hx
def vG(F:Fence)(n:Nat)(P:Program)(Mr:List Nat)(ops:Array Oper)(Q:Exit->Act->World->Prop)(n0 f:Nat)(listed:Array Bool)(a:Act)(w:World):List Nat->Prop
 | []=>True
 |i::r=>(i<n0/\wpOpIn F n P ops Q i (fun a' w'=>Keeps Mr w w'/\qh F n P Mr ops Q n0 f (listed.setIfInBounds i true) a' w') a w)/\vG F n P Mr ops Q n0 f listed a w r
theorem oQ{ops:Array Oper}{a:Act}{w:World}(i:Nat)(r:List Nat)(hr:Region.ready .any ops listed=i::r)(h:vG F n P Mr ops Q n0 f listed a w (i::r)):
 qh F n P Mr ops Q n0 (f+1) listed a w:=by
 refine⟨by rw[hr];simp,?_⟩;rw[hr];have:∀(l:List Nat),vG F n P Mr ops Q n0 f listed a w l->∀j∈l,j<n0/\wpOpIn F n P ops Q j (fun a' w'=>Keeps Mr w w'/\qh F n P Mr ops Q n0 f (listed.setIfInBounds j true) a' w') a w:=by
  intro l
  induction l with
  |nil=>intro _ j C;cases C
  |cons k r ih=>
   intro h j C;rcases List.mem_cons.1 C with e|e;·subst e;exact h.1
   ·exact ih h.2 j e
 exact this _ h
theorem gU{ops:Array Oper}{a:Act}{w:World}:vG F n P Mr ops Q n0 f listed a w []:=trivial
theorem dN{l:List Oper}{a:Act}{w:World}{i:Nat}{r:List Nat}{o:Oper}(hi:i<n0)(ho:l[i]?=some o)(hw:Region.wanted o (yielded l.toArray a.tmps)=true)
 (h:∀K:Act->World->Prop,(∀a' w',Keeps Mr w w'/\qh F n P Mr l.toArray Q n0 f (listed.setIfInBounds i true) a' w'->K a' w')->o.wpIn F n P a w K Q)
 (hr:vG F n P Mr l.toArray Q n0 f listed a w r):vG F n P Mr l.toArray Q n0 f listed a w (i::r):=by
 refine⟨⟨hi,?_⟩,hr⟩;unfold wpOpIn;exact Xc
end
attribute [irreducible] qh vG
theorem aI{F:Fence}{n:Nat}{P:Program}{Q:Exit->Act->World->Prop}{K:Act->World->Prop}{o:Oper}{a:Act}{w w':World}(x y:Operand)(t:TypeId){v v':Value}{A:Option Addr}{m c:Nat}
 (ho:o.op=.call { callee:=.builtin .append,args:=#[x,y],argTypes:=#[t,t] }) (hx:a.eval x=v) (hy:a.eval y=.slice A m c)
 (hr:(Builtin.append_ #[t,t] o.type #[v,.slice A m c]).run P w=.ok v' w') (hk:K (a.put o.dst v') w'):o.wpIn F n P a w K Q:=by
 have d:Oper.mild o=true:=by unfold Oper.mild;rw[ho]
 unfold Oper.wpIn;refine⟨jP d w _,?_⟩;rw[sF d];unfold execOp;rw[ho];simp only[resolve,invoke,builtin,Sem.run_bind,Sem.run_pure,Result.andThen_ok,List.map_toArray,List.map_cons,List.map_nil,hx,hy,hr];exact hk
attribute [irreducible] kG jH dw nX wX
theorem stays{w:World}{b o:Nat}(h:w.cell? ⟨b,o,none⟩=some u):∀w',Keeps [] w w'->w'.cell? ⟨b,o,none⟩=some u:=fun _ k=>k.cell (by simp) h
theorem ah{w:World}{b o:Nat}(h:w.cell? ⟨b,o,none⟩=some u):∀w',Keeps [] w.drew w'->w'.cell? ⟨b,o,none⟩=some u:=fun _ k=>k.cell (w:=w.drew) (by simp) h
theorem aF{Mr:List Nat}{w:World}{b o:Nat}(hb:b∉Mr)(h:w.cell? ⟨b,o,none⟩=some u):∀w',Keeps Mr w.drew w'->w'.cell? ⟨b,o,none⟩=some u:=fun _ k=>k.cell (w:=w.drew) hb h
theorem ent{F:Fence}{n:Nat}{P:Program}{c:Code}{a':Array Value}{w:World}(hf:P.funcs[f]?=some fn)(hn:fn.ntmps=k)
 (h:c.wpIn F n P (bodyPost P fn R) ⟨a', []⟩ w) (hb:fn.body=some c:=by exact rfl) (hF:F.fn f:=by exact trivial) (ha:args++Array.replicate (k-args.size) undef=a':=by exact AU) (hro:F.round=none:=by exact rfl):CallsIn F n P f args w R:=
 callsIn_of_wp hf hb hF (by rw[hn,ha];exact h) hro
theorem qj{F:Fence}{n:Nat}{P:Program}{c:Code}{a':Array Value}{w:World}(hf:P.funcs[f]?=some fn)(hb:fn.body=some c)(hn:fn.ntmps=k)
 (h:c.wpIn F n P (bodyPostDIn F n P fn R) ⟨a', []⟩ w) (hF:F.fn f:=by exact trivial) (ha:args++Array.replicate (k-args.size) undef=a':=by exact AU) (hro:F.round=none:=by exact rfl):CallsIn F n P f args w R:=
 callsIn_of_wp_defers hf hb hF (by rw[hn,ha];exact h) hro
theorem sH{F:Fence}{n:Nat}{P:Program}{c:Code}{a':Array Value}{w:World}(hf:P.funcs[f]?=some fn)(hb:fn.body=some c)(hn:fn.ntmps=k)
 (h:c.wpIn F n P (bodyPostM F n P fn R) ⟨a', []⟩ w) (hF:F.fn f:=by exact trivial) (ha:args++Array.replicate (k-args.size) undef=a':=by exact AU) (hro:F.round=none:=by exact rfl):CallsIn F n P f args w R:=
 callsIn_of_wp_marks hf hb hF (by rw[hn,ha];exact h) hro
theorem wid{P:Program}{f:FuncId}{w:World}(h:CallsIn Fence.wide 10 P f args w R):Calls P f args w R:=callsIn_wide.1 h
theorem Cl{n:Nat}{P:Program}{w:World}{Q:Ending->World->Prop}(f:FuncId)(h:Calls P f args w R)(k:∀e w',R e w'->Q e w'):Fence.wide.fn f/\CallsIn Fence.wide n P f args w Q:=⟨trivial,(callsIn_wide.2 h).mono k⟩
theorem Cm{n:Nat}{P:Program}{f:FuncId}{w:World}{Q:Ending->World->Prop}(h:Calls P f args w R)(k:∀e w',R e w'->Q e w'):Fence.wide.fn f/\CallsIn Fence.wide n P f args w Q:=⟨trivial,(callsIn_wide.2 h).mono k⟩
theorem Cn{n:Nat}{P:Program}{f:FuncId}{w:World}{Q:Ending->World->Prop}(h:Calls P f args w R)(k:∀e w',R e w'->Q e w'):CallsIn Fence.wide n P f args w Q:=(callsIn_wide.2 h).mono k
theorem Hd(h:p):RowKit.Hid p:=h
theorem Hd2(a:p)(b:q):RowKit.Hid (p/\q):=⟨a,b⟩
theorem fB(a:p)(b:q)(c:r):RowKit.Hid (p/\q/\r):=⟨a,b,c⟩
theorem h_{s:Prop}(a:p)(b:q)(c:r)(d:s):RowKit.Hid (p/\q/\r/\s):=⟨a,b,c,d⟩
theorem oK{s:Prop}(a:p)(b:q)(c:r)(d:s)(e:t):RowKit.Hid (p/\q/\r/\s/\t):=⟨a,b,c,d,e⟩
theorem Zw{s u:Prop}(a:p)(b:q)(c:r)(d:s)(e:t)(f:u):RowKit.Hid (p/\q/\r/\s/\t/\u):=⟨a,b,c,d,e,f⟩
theorem Hd7{s u v:Prop}(a:p)(b:q)(c:r)(d:s)(e:t)(f:u)(g:v):RowKit.Hid (p/\q/\r/\s/\t/\u/\v):=⟨a,b,c,d,e,f,g⟩
theorem wy(h:p:=by exact AX):p:=h
theorem wn(h:p:=by exact EH):p:=h
theorem bel(h:p:=by(repeat(first|exact Below.refl _ _|assumption|refine Below.drew ?_|refine Below.setCell ?_ (by(first|(simp;done)|(simp;omega)|omega)) _|refine Below.alloc ?_ (by(first|(simp;done)|(simp;omega)|omega)) _))):p:=h
theorem lit(h:q)(e:p=q:=by exact AA):p:=e▸h
section
variable {F:Fence}{n:Nat}{P:Program}{Mr:List Nat}{Q:Exit→Act→World→Prop}
theorem ay{l:List Oper}{listed':Array Bool}{a a':Act}{w:World}(i:Nat){o:Oper}{v:Value}(h:qh F n P Mr l.toArray (cu Q) n0 f listed' a' w)
 (hok:yO l.toArray n0 listed i=true:=by kernel_rfl) (ho:l[i]?=some o:=by exact rfl) (hm:Oper.mild o=true:=by exact rfl)
 (hw:Region.wanted o (yielded l.toArray a.tmps)=true:=by exact AX)
 (hv:∀w',Keeps Mr w w'->∀Z:Result Next->Prop,Z (.ok (.value v) w')->Z ((execOp a.eval o).run P w'):=by exact Ub)
 (ha:a.put o.dst v=a':=by exact AA)
 (hl:listed.setIfInBounds i true=listed':=by exact AA):
 qh F n P Mr l.toArray (cu Q) n0 (f+1) listed a w:=
 Nz i hok ho hm hw BU ⟨v,hv,by rw[ha,hl];exact h⟩
theorem eU{l:List Oper}{a:Act}{w:World}(i:Nat){o:Oper}
 (h:∀K:Act->World->Prop,(∀a' w',Keeps Mr w w'/\qh F n P Mr l.toArray Q n0 f (listed.setIfInBounds i true) a' w'->K a' w')->o.wpIn F n P a w K Q)
 (hr:Region.ready .any l.toArray listed= [i]:=by kernel_rfl) (hi:i<n0:=by decide) (ho:l[i]?=some o:=by exact rfl)
 (hw:Region.wanted o (yielded l.toArray a.tmps)=true:=by exact AX):
 qh F n P Mr l.toArray Q n0 (f+1) listed a w:=
 oQ i [] hr (dN hi ho hw h gU)
theorem iq{ops:Array Oper}{a:Act}{w:World}(g:Nat)(h:wpOpsIn F n P ops Q (List.range' n0 g) a w)(hl:listed=qO ops n0:=by kernel_rfl)(hg:ops.size-n0=g:=by exact rfl):qh F n P Mr ops Q n0 0 listed a w:=FN g hl hg h
variable {L:Act→World→Prop}{i:Nat}{rest:List Nat}{l:List Oper}{o:Oper}{a a':Act}{w:World}{v:Value}
theorem jW(h:∀K:Act->World->Prop,(∀a' w',wpOpsIn F n P l.toArray Q (List.range' (k+1) g) a' w'->K a' w')->∀K':Act->World->Prop,(∀a' w',K a' w'->K' a' w')->o.wpIn F n P a w K' Q)(ho:l[k]?=some o:=by exact rfl)(hw:Region.wanted o (yielded l.toArray a.tmps)=true:=by exact AX):wpOpsIn F n P l.toArray Q (List.range' k (g+1)) a w:=uj fun K d=>oP ho hw fun K' j=>h K d K' j
theorem jR(h:jH F n P Mr l.toArray Q L rest a' w)(ho:l[i]?=some o:=by exact rfl)(hm:Oper.mild o=true:=by exact rfl)
 (hw:Region.wanted o (yielded l.toArray a.tmps)=true:=by exact AX)
 (hv:∀w',Keeps Mr w w'->∀Z:Result Next->Prop,Z (.ok (.value v) w')->Z ((execOp a.eval o).run P w'):=by(intro w' j Z e;simp only[execOp];(repeat conv in Act.eval _ _=>whnf);(try go_simp);exact e))
 (ha:a.put o.dst v=a':=by exact AA):jH F n P Mr l.toArray Q L (i::rest) a w:=
 aH fun K d=>IE ho hm hw ⟨v,hv,d _ _ (ha▸h)⟩
theorem dY(h:jH F n P Mr l.toArray Q L rest a' w)(ho:l[i]?=some o:=by exact rfl)(hm:Oper.mild o=true:=by exact rfl)
 (hw:Region.wanted o (yielded l.toArray a.tmps)=false:=by exact EH)
 (ha:a.put o.dst undef=a':=by exact AA):jH F n P Mr l.toArray Q L (i::rest) a w:=
 aH fun K d=>IG ho hm hw (d _ _ (ha▸h))
theorem jS(h:jH F n P Mr l.toArray Q L rest a' w)(ho:l[i]?=some o:=by exact rfl)(hm:Oper.mild o=false:=by exact rfl)
 (hw:Region.wanted o (yielded l.toArray a.tmps)=false:=by exact EH) (hF:∀f,F.fn f:=by exact fun _=>trivial)
 (ha:a.put o.dst undef=a':=by exact AA):jH F n P Mr l.toArray Q L (i::rest) a w:=
 aH fun K d=>yN ho hm hw hF (d _ _ (ha▸h))
end
theorem eH(h:q)(e:q->p:=by(intro h;(repeat(first|refine jR ?_|refine dY ?_|refine jS ?_));exact h)):p:=e h
end
abbrev bh:=@List.mem_of_getElem?
abbrev bj:=@Nat.le_refl
abbrev bq:=@Keeps.of_below
abbrev bu:=@List.getElem?_eq_some_iff
abbrev bw:=@World.block_lt_of_cell?
abbrev bz:=@List.mem_singleton
abbrev bE:=@List.mem_cons_of_mem
abbrev bL:=@Below.refl
abbrev bO:=@trivial
abbrev bR:=@List.take_of_length_le
abbrev bX:=@Nat.lt_of_lt_of_le
abbrev cd:=@List.getElem?_eq_getElem
abbrev cf:=@Nat.zero_le
abbrev ck:=@List.length_map
abbrev cw:=@List.mem_cons_self
abbrev cx:=@decide_eq_true
abbrev cA:=@IntKind.wrap_i64
abbrev cB:=@List.drop_of_length_le
abbrev cC:=@List.getD_eq_getElem?_getD
abbrev cD:=@List.mem_cons
abbrev cE:=@decide_eq_false
abbrev cF:=@Nat.le_trans
abbrev cG:=@Keeps.refl
abbrev cH:=@Bool.eq_false_or_eq_true
abbrev cI:=@List.length_take
abbrev cJ:=@List.length_append
abbrev cK:=@List.mem_append
abbrev cL:=@List.drop_eq_getElem_cons
abbrev cM:=@List.getElem?_map
abbrev cP:=@List.mem_append_right
abbrev cQ:=@List.getElem?_append_right
abbrev cR:=@Array.getElem?_eq_some_iff
abbrev cS:=@Bool.and_eq_true
abbrev cT:=@List.all_eq_true
abbrev cU:=@beq_eq_false_iff_ne
abbrev cW:=@of_decide_eq_true
abbrev cX:=@Oper.semAt_some
abbrev cY:=@Nat.le_of_lt
abbrev c_:=@wpListIn_plain
abbrev de:=@List.length_eq_zero_iff
abbrev df:=@List.nil_append
abbrev di:=@List.mem_append_left
abbrev dk:=@List.getElem?_append_left
abbrev dm:=@List.take_add_one
abbrev du:=@Go.Proofs.YtfdmnogfflcllaaGreatDoor.Keeps.of_below
abbrev dx:=@List.append_nil
abbrev dy:=@Nat.mul_le_mul_right
abbrev dz:=@List.append_assoc
abbrev dC:=@Nat.zero_add
abbrev d_:=@List.cons_append
abbrev ed:=@List.map_append
abbrev ef:=@decide_eq_true_eq
abbrev eh:=@List.length_cons
abbrev eo:=@List.not_mem_nil
abbrev et:=@tail_nil
abbrev eB:=@Nat.add_zero
abbrev eC:=@Nat.eq_zero_or_pos
abbrev eE:=@List.mem_map
abbrev eI:=@Int.natCast_mul
abbrev eJ:=@List.length_drop
abbrev eK:=@Option.getD_some
abbrev eM:=@List.set_cons_zero
abbrev eN:=@List.setIfInBounds_toArray
abbrev eO:=@Int.tdiv_eq_ediv_of_nonneg
abbrev eQ:=@List.getElem?_take_of_lt
abbrev eR:=@enters_of
abbrev eS:=@leavesIn_cons
abbrev eT:=@Go.WideShapes.add_plain
abbrev eV:=@List.map_cons
abbrev eW:=@decide_eq_true_iff
abbrev eZ:=@World.cell?_of_block
abbrev e_:=@Nat.lt_succ_self
abbrev fc:=@Prod.mk.injEq
abbrev fh:=@Nat.one_mul
abbrev fi:=@List.drop_zero
abbrev fk:=@Option.some.inj
abbrev fl:=@Go.Proofs.YtfdmnogfflcllaaGreatDoor.Keeps.refl
abbrev fm:=@Bool.true_and
abbrev fp:=@List.append_toArray
abbrev fq:=@List.set_cons_succ
abbrev fu:=@bne_iff_ne
abbrev fv:=@Int.toNat_natCast
abbrev fy:=@List.getElem?_drop
abbrev fz:=@World.putObj_heap_other
abbrev fI:=@List.getElem?_cons_succ
abbrev fL:=@List.length_pos_iff
abbrev fN:=@List.getElem_mem
abbrev fR:=@List.length_set
abbrev fS:=@Nat.mul_le_mul
abbrev fT:=@List.take_zero
abbrev fW:=@List.getElem?_eq_none
abbrev fX:=@Nat.zero_mul
abbrev fY:=@Nat.add_mul
abbrev ga:=@List.mem_range
abbrev gh:=@List.length_range
abbrev gj:=@List.getElem?_set_ne
abbrev gl:=@List.getElem?_set_self
abbrev gm:=@Bool.false_eq_true
abbrev gp:=@of_decide_eq_false
abbrev gw:=@Option.map_some
abbrev gA:=@Nat.sub_self
abbrev gC:=@Nat.min_eq_left
abbrev gD:=@List.length_nil
abbrev gG:=@Array.length_toList
abbrev gH:=@heap_alloc_new
abbrev gL:=@Nat.mul_assoc
abbrev gM:=@decide_eq_false_iff_not
abbrev gN:=@List.getElem?_of_mem
abbrev gO:=@Nat.mul_add
abbrev gP:=@Nat.mul_one
abbrev gR:=@Array.replicate_succ
abbrev gS:=@Array.replicate_zero
abbrev gT:=@congrArg
abbrev ia:=@List.map_nil
abbrev ie:=@Bool.or_eq_true
abbrev ij:=@List.any_cons
abbrev ik:=@List.getElem?_range
abbrev il:=@List.set_append_right
abbrev iu:=@Bool.not_eq_true'
abbrev iv:=@Bool.and_assoc
abbrev ix:=@Int.mul_le_mul
abbrev iz:=@List.getElem?_cons_zero
abbrev iA:=@Option.toList_some
abbrev iB:=@or_false
abbrev iG:=@Bool.false_ne_true
abbrev iH:=@Nat.pow_le_pow_right
abbrev iN:=@Bool.or_eq_false_iff
abbrev iS:=@List.any_eq_true
abbrev iX:=@World.frozen?_of_block
abbrev i_:=@List.push_toArray
abbrev ja:=@Nat.le_succ
abbrev jb:=@List.flatMap_cons
abbrev jf:=@Rep.keep
abbrev jj:=@Array.getElem?_toList
abbrev jn:=@Below.heap_setCell
abbrev js:=@Int.mul_le_mul_of_nonneg_left
abbrev jt:=@run_takeDeferred
abbrev ju:=@Go.plainElem_int
abbrev jx:=@List.ext_getElem
abbrev jz:=@Bool.false_or
abbrev jN:=@List.filter_cons_of_pos
abbrev j0:=@List.filter_cons_of_neg
abbrev ke:=@Nat.mul_comm
abbrev kh:=@World.putObj_size
abbrev ki:=@Int.natCast_add
abbrev km:=@Int.toNat_of_nonneg
abbrev ko:=@List.nodup_cons
abbrev kI:=@List.length_zip
abbrev kO:=@Int.tmod_eq_emod_of_nonneg
abbrev k_:=@Nat.mod_lt
abbrev ld:=@Nat.div_lt_iff_lt_mul
abbrev lf:=@Nat.lt_of_le_of_lt
abbrev lh:=@Lib.run_eql_slice_nil
abbrev lj:=@List.getLast?_eq_getElem?
abbrev ln:=@Array.getElem?_eq_getElem
abbrev lz:=@World.alloc_heap_new
abbrev lA:=@List.mem_of_mem_drop
abbrev lB:=@info_parts
abbrev lE:=@World.ownsRow_lit
abbrev lL:=@List.eq_of_mem_replicate
abbrev lO:=@List.size_toArray
abbrev lP:=@Nat.lt_or_ge
abbrev lR:=@Nat.pow_succ
abbrev l6:=@Bool.or_false
abbrev l_:=@Go.WalkArith.wf_i64
abbrev ma:=@Bool.or_assoc
abbrev mc:=@List.countP_cons
abbrev me:=@Prod.mk.inj
abbrev mf:=@if_true
abbrev mh:=@List.take_append_drop
abbrev mi:=@Nat.mul_zero
abbrev mj:=@Int.mul_add
abbrev mn:=@Int.emod_nonneg
abbrev mo:=@Array.getD_eq_getD_getElem?
abbrev mq:=@List.countP_le_length
abbrev mw:=@run_append_own_at
abbrev my:=@Nat.le_of_lt_succ
abbrev mz:=@Option.some.injEq
abbrev mC:=@List.sum_cons
abbrev mE:=@List.mem_or_eq_of_mem_set
abbrev mH:=@List.take_length
abbrev mI:=@Below.heap_alloc
abbrev mK:=@Nat.mul_le_mul_left
abbrev mL:=@List.flatMap_append
abbrev mN:=@List.mem_map_of_mem
abbrev mR:=@List.any_nil
abbrev mS:=@Act.put_comm
abbrev mT:=@Nat.le_mul_of_pos_right
abbrev mU:=@List.cons.injEq
abbrev nj:=@Go.Maps.atKey_put_other
abbrev nq:=@List.foldl_cons
abbrev nt:=@List.map_singleton
abbrev nv:=@DataW.weights_mem_each
abbrev nx:=@World.cells?_some
abbrev nz:=@Bool.false_and
abbrev nA:=@List.map_set
abbrev nB:=@Bool.true_or
abbrev nE:=@Go.wpIn_mono
abbrev nF:=@List.map_map
abbrev nL:=@Nat.mod_eq_of_lt
abbrev nQ:=@Nat.div_eq_of_lt
abbrev oc:=@Nat.le_of_not_lt
abbrev od:=@Array.toList_inj
abbrev oe:=@List.forall_mem_cons
abbrev om:=@List.mem_of_mem_take
abbrev oA:=@List.mem_iff_getElem
abbrev oB:=@if_false
abbrev oE:=@Nat.add_assoc
abbrev oF:=@ByteArray.ext
abbrev oO:=@Rep.len
abbrev oR:=@List.range_succ
abbrev oS:=@Nat.pow_pos
abbrev oT:=@Nat.div_le_self
abbrev oV:=@List.any_append
abbrev oX:=@Int.ediv_nonneg
abbrev oY:=@Rep.less
abbrev pc:=@Nat.add_comm
abbrev pd:=@callsIn_wide
abbrev pf:=@Nat.le_of_eq
abbrev pg:=@Iff.rfl
abbrev ph:=@Array.ext
theorem pj{p:Prop}(h:p:=by omega):p:=h
theorem pk{p:Prop}(h:p:=by kernel_rfl):p:=h
theorem po{p:Prop}(h:p:=by simp):p:=h
theorem pt{p:Prop}(h:p:=by decide):p:=h
theorem px{p:Prop}(h:p:=by simp;omega):p:=h
theorem py{p:Prop}(h:p:=by decide+kernel):p:=h
theorem pA{p:Prop}(h:p:=by unfold i64;omega):p:=h
theorem pB{p:Prop}(h:p:=by simp[go_sem]):p:=h
theorem pC{p:Prop}(h:p:=by trivial):p:=h
theorem pD{n:Nat}:n<=n:=Nat.le_refl n
theorem pE{s:Nat}{w:World}:Below s w w:=Below.refl s w
theorem pH{α:Type}{P:α->Prop}:∀q,q∈([]:List α)->P q:=fun q h=>by cases h
instance:CoeOut World Nat:=⟨fun w=>w.heap.size⟩
instance:CoeOut Int Value:=⟨fun n=>.int .i64 n⟩
instance:CoeOut Nat Value:=⟨fun n=>.int .i64 n⟩
instance:CoeOut Bool Value:=⟨fun b=>.bool b⟩
instance:CoeOut ByteArray Value:=⟨fun s=>.string s⟩
