/- Lemmas. -/
import Derived.Laws.EntriesVeiled
import Derived.Lib.Strings
import Derived.Test.YtfdmnogfflcllaaGreatDoorM21
import Derived.Test.YtfdmnogfflcllaaGreatDoorM23
set_option linter.unusedVariables false
set_option linter.unusedSimpArgs false
set_option maxRecDepth 100000
set_option maxHeartbeats 20000000
namespace Go.Proofs.YtfdmnogfflcllaaGreatDoor
open Go.Proofs.Tryz
theorem aj9{p:Prop}(h:p:=by
 gi_wp2_with (first|(refine⟨bq,?_⟩))
 go_ret;exact⟨by rw[HX.out];rfl,HB.out⟩):p:=h
theorem A_{p:Prop}(h:p:=by refine ent func203 rfl ntmps203 ?_;exact aj9):p:=h
theorem QL{p:Prop}(h:p:=by exact⟨⟨k+1,oE,by go_num,p,Hd (by rw[<-z.out,T.out,Z.out,ff])⟩,by simp[intOf];omega⟩):p:=h
theorem TD{p:Prop}(h:p:=by
 rw[if_neg e];by_cases a:0<=j;·have:¬j.toNat=i:=oE;simp[this]
 simp[a]):p:=h
theorem TJ{p:Prop}(h:p:=by
 rcases cB.1 g with rfl|g;·exact s.v.mM.1
 rw[bE]at g;subst g;exact s.v.mM.2):p:=h
theorem Ub{p:Prop}(h:p:=by
 rcases cB.1 hq with rfl|hq;·exact hM.1
 rw[bE]at hq;subst hq;exact hM.2):p:=h
theorem Xa{p:Prop}(h:p:=by rw[<-z.out,cA (by rw[HL.a];exact bh _),cA (by rw[HL.u];exact bh _),eqF]):p:=h
theorem Xo{p:Prop}(h:p:=by simp[stepG,unwind,callDeferred,e,hd,Sem.runT_eq,hi,GStep.bare_after]):p:=h
variable {l:List bK}{l':List aU}{k c m d i n' b nb D:Nat}{M' Ds:List Nat}{A:Option Addr}{rk:Nat→Nat}{t:dA}{P:Program}{v:Value}{F:Fence}{fn:Func}{R:Ending→World→Prop}{args:Array Value}{wr:World}{s1 s2 s3 s4 s5 s6 s7:dK}
section
open Go.RowKit Go.Shelf
mutual
def fE:aU->aU->Bool
 | .mk k s n d l,.mk k' s' n' d' l'=>decide (k=k')&&decide (s=s')&&decide (n=n')&&decide (d=d')&&fQ l l'
def fQ:List aU->List aU->Bool
 | [], []=>true
 |x::l,y::l'=>fE x y&&fQ l l'
 | [],_::_=>false
 |_::_, []=>false
end
theorem KA(x y:aU):fE x y=(decide (x.kind=y.kind)&&decide (x.name=y.name)&&decide (x.n=y.n)&&decide (x.d=y.d)&&fQ x.l y.l):=by cases x;cases y;rw[fE];rfl
theorem yX:∀{l l':List aU},l.length≠l'.length->fQ l l'=false
 | [], [],h=>absurd rfl h
 | [],_::_,_=>by rw[fQ]
 |_::_, [],_=>by rw[fQ]
 |x::l,y::l',h=>by rw[fQ,yX (fun e=>h (by simp[e])),Bool.and_false]
theorem Dc{l:List aU}{x y:aU}(hx:l[k]?=some x)(hy:l'[k]?=some y):fQ (l.drop k) (l'.drop k)=(fE x y&&fQ (l.drop (k+1)) (l'.drop (k+1))):=by obtain⟨a,e⟩:=bj.1 hx;obtain⟨f,g⟩:=bj.1 hy;have G:=cT a;have N:=cT f;rw[G,N,fQ,e,g]
def ZO(x:aU):Prop:=∀{y:aU}{M M':List Nat}{A B:Option Addr}{m c m' c':Nat}{w:World},Sl aU w M A m c x.l->Sl aU w M' B m' c' y.l->Calls prog 203 #[.agg #[.int .i64 x.kind,.string x.name,.int .i64 x.n,.int .i64 x.d,.slice A m c],.agg #[.int .i64 y.kind,.string y.name,.int .i64 y.n,.int .i64 y.d,.slice B m' c']] w fun e w'=>e=.returned (.bool (fE x y))/\Below w w w'
theorem Yd{M:List Nat}{B:Option Addr}{n:Nat}{l:List aU}{w:World}(hx:Sl aU w M A n c l)(hy:Sl aU w M' B m d l')(hf:∀x,x∈l->ZO x):
 CB 250 #[.slice A n c,.slice B m d,.func (.func 203) #[] #[]] (.bool (fQ l l')) w:=by
 refine wid ?_;have G:=hx.len;have I:=hy.len;have af:=hx.small;have eg:=eK (P:=prog) func203 oF rfl;by_cases ac:n=m
 ·subst ac;have H:=Hd2 hx hy;have HL:=Hd2 G I;have IH:=Hd hf;have aa:=Hd (bw w w);have Un:=Hd (show fQ (l.drop 0) (l'.drop 0)=fQ l l' by simp);clear hx hy G I hf;refine ent func250 rfl ntmps250 ?_;gi_wp2;gi_loopw[17] (fun i wr=>∃k:Nat,k<=n/\i=.int .i64 k/\Hid (Below w w wr)/\Hid (fQ (l.drop k) (l'.drop k)=fQ l l')) (fun i _=>n-(intOf i).toNat);case atStart=>exact⟨0,bO _,rfl,aa,Un⟩
  case round=>
   obtain⟨k,hk,rfl,g,E⟩:=hrel;by_cases J:k<n
   ·obtain⟨x,o⟩:=dW l k (by rw[HL.a];exact J);obtain⟨y,K⟩:=dW l' k (by rw[HL.u];exact J);have X:=Dc o K;obtain⟨b1,o1,Y,m1,d1,rfl,⟨p0,p1,p2,p3,p4⟩,-,hs1⟩:=(H.a.go g.out).qQ o;obtain⟨b2,o2,B2,m2,d2,rfl,⟨q0,q1,q2,q3,q4⟩,-,hs2⟩:=(H.u.go g.out).qQ K;obtain⟨U,ad,f,N⟩:=fP (w:=wr) ((Fr.nil wr).a wr [.int .i64 x.kind,.string x.name,.int .i64 x.n,.int .i64 x.d,.slice Y m1 d1] 66);obtain⟨V2,ae,p,Q⟩:=fP (w:=U) ((N).a U [.int .i64 y.kind,.string y.name,.int .i64 y.n,.int .i64 y.d,.slice B2 m2 d2] 66);refine op1 Q ?_;intros;obtain⟨q,V⟩:=aC (fE x y);have S:=Hd (IH.out x (aR o) ((hs1.go f).go p) ((hs2.go f).go p));have Z:=Hd V;have T:=Hd X;have j:=Hd (g.out.trans ((f.trans (p.mono f.size)).mono g.out.size));have r1:=(a_ f []).cell oO q0;have r2:=(a_ f []).cell oO q1;have r3:=(a_ f []).cell oO q2;have r4:=(a_ f []).cell oO q3;have r5:=(a_ f []).cell oO q4;clear o K X hs1 hs2 V N Q f p;cases q
    ·gi_wp2_with (first
       |(refine Cl 203 S.out ?_;rintro e w2 ⟨rfl,h⟩;rw[Z.out];have s:=Hd (j.out.trans (h.mono j.out.size));clear h)
       |fail)
     go_ret;exact⟨by rw[<-E.out,T.out,Z.out];rfl,s.out⟩
    gi_wp2_with (first
     |(refine Cl 203 S.out ?_;rintro e w2 ⟨rfl,h⟩;rw[Z.out];have s:=Hd (j.out.trans (h.mono j.out.size));clear h)
     |fail)
    exact⟨⟨k+1,oE,by go_num,s,Hd (by rw[<-E.out,T.out,Z.out,ff])⟩,by simp[intOf];omega⟩
   ·have ab:k=n:=oE;clear hk J;subst ab;have z:=Hd (show fQ l l'=true by
     rw[<-E.out,cA (by rw[HL.a];exact bh _),cA (by rw[HL.u];exact bh _),fQ])
    gi_wp2;go_ret;exact⟨by rw[z.out];rfl,g.out⟩
 ·have z:=Hd (show fQ l l'=false from yX oE);clear hx hy G I hf;refine ent func250 rfl ntmps250 ?_;gi_wp2;go_ret;exact⟨by rw[z.out];rfl,bw _ _⟩
end
def RI(ts:List dA):Nat->Nat->List bK
 |0,_=> []
 |f+1,i=>match ts[i]? with
  |none=> []
  |some t=>t.2.flatMap fun(k:bK)=>if k.1=5 then RI ts f k.2.2.toNat else [k]
abbrev Jd(r:aS)(i:Nat):List bK:=RI r.ties 16 i
structure T15(r:aS)(rk:Nat->Nat):Prop where
 few:r.ties.length<=5
 keys:∀t,t∈r.ties->t.2.length<=4
 ref:∀i t,r.ties[i]?=some t->∀k,k∈t.2->k.1=5->∃u:Nat,k.2.2=(u:Int)/\u<r.ties.length/\rk u<rk i
 top:∀i,i<r.ties.length->rk i<5
 len:∀i,i<r.ties.length->(Jd r i).length<=32
structure T16(r:aS)(rk:Nat->Nat):Prop where
 few:r.ties.length<=16
 keys:∀t,t∈r.ties->t.2.length<=32
 ref:∀i t,r.ties[i]?=some t->∀k,k∈t.2->k.1=5->∃u:Nat,k.2.2=(u:Int)/\u<r.ties.length/\rk u<rk i
 top:∀i,i<r.ties.length->rk i<16
 len:∀i,i<r.ties.length->(Jd r i).length<=32
theorem T15.to{r:aS}(h:T15 r rk):T16 r rk:=⟨cD h.few oE,fun t ht=>cD (h.keys t ht) oE,h.ref,fun i hi=>cf (h.top i hi) oE,h.len⟩
theorem vV{α β:Type}{f g:α->List β}:∀{l:List α},(∀x,x∈l->f x=g x)->l.flatMap f=l.flatMap g
 | [],_=>rfl
 |x::l,h=>by rw[List.flatMap_cons,List.flatMap_cons,h x cd,vV (fun y hy=>h y (bz _ hy))]
theorem KF{r:aS}{rk:Nat->Nat}(h:T16 r rk):∀(f g i:Nat),i<r.ties.length->rk i<f->rk i<g->RI r.ties f i=RI r.ties g i
 |0,_,_,_,a,_=>by omega
 |_,0,_,_,_,a=>by omega
 |f+1,g+1,i,hi,a,b=>by
  unfold RI;have ht:r.ties[i]?=some r.ties[i]:=bX hi;rw[ht];apply vV;intro k hk;by_cases h5:k.1=5;·obtain⟨u,e,hu,hlt⟩:=h.ref i _ ht k hk h5;rw[if_pos h5,if_pos h5,e];exact KF h f g u hu oE oE
  rw[if_neg h5,if_neg h5]
theorem acG{r:aS}(h:T16 r rk)(ht:r.ties[i]?=some t):Jd r i=t.2.flatMap fun(k:bK)=>if k.1=5 then Jd r k.2.2.toNat else [k]:=by have s:=(bj.1 ht).1;have a:=h.top i s;show RI r.ties 16 i=_;rw[KF h 16 17 i s a oE];show(match r.ties[i]? with|none=> []|some t=>t.2.flatMap fun(k:bK)=>if k.1=5 then RI r.ties 16 k.2.2.toNat else [k])=_;rw[ht]
theorem KH{r:aS}(h:T15 r rk)(ht:r.ties[i]?=some t):Jd r i=t.2.flatMap fun(k:bK)=>if k.1=5 then Jd r k.2.2.toNat else [k]:=acG h.to ht
def zf(r:aS)(l:List bK):List bK:=l.flatMap fun(k:bK)=>if k.1=5 then Jd r k.2.2.toNat else [k]
theorem KI(r:aS){j:Nat}{k:bK}(h:l[j]?=some k):zf r (l.take (j+1))=zf r (l.take j)++(if k.1=5 then Jd r k.2.2.toNat else [k]):=by unfold zf;rw[eo,h,List.flatMap_append];simp
theorem Vk(r:aS)(l:List bK)(j:Nat):(zf r (l.take j)).length<=(zf r l).length:=by
 have:zf r l=zf r (l.take j)++zf r (l.drop j):=by unfold zf;rw[<-List.flatMap_append,lO]
 rw[this,cH];omega
section
open Go.RowKit Go.Shelf
theorem MV.drop{vs:List Value}{w:World}{b n:Nat}{S:Int->Option Value}{t e:TypeId}(h:MV vs w b n S)(ht:prog.underlying t=some (.map 3 e)){k:Int}(hk:i64 k)(ty:TypeId):
 ∃w',(Builtin.delete_ #[t,3] ty #[.map (some b),.int .i64 k]).run prog w=.ok (.tuple #[]) w'/\MV vs w' b n (fun j=>if j=k then none else S j)/\w.mapTurned w' b:=by
 obtain⟨D,f,g,o⟩:=h;obtain⟨w',p,V,q⟩:=f.drop XV ht (xP hk) ty;refine⟨w',p,⟨_,V,g.del _,fun j=>?_⟩,q⟩;by_cases e:j=k;·subst e;simp only[lL];exact⟨Go.Maps.has_del_same,fun z=>Go.Maps.atKey_del_same z⟩
 ·have N:sQ j≠sQ k:=fun h=>e (by injection h);have a:=o j;simp only[if_neg e];revert a;rw[Go.Maps.has_del_other N]
  cases S j with
  |none=>exact fun a=>⟨a.1,fun z=>(Go.Maps.atKey_del_other N z).trans (a.2 z)⟩
  |some u=>exact fun a=>⟨a.1,a.2.choose,a.2.choose_spec.1,fun z=>(Go.Maps.atKey_del_other N z).trans (a.2.choose_spec.2 z)⟩
def qG(O:Nat->Bool)(k:Int):Option Value:=if 0<=k/\O k.toNat=true then some (.bool true)else none
theorem Vm{O:Nat->Bool}:qG O (i:Int)=if O i=true then some (.bool true)else none:=by unfold qG;simp
theorem RJ(O:Nat->Bool)(i:Nat):(fun j=>if j=(i:Int)then some (.bool true)else qG O j)=qG (fun j=>O j||decide (j=i)):=by
 funext j;unfold qG;by_cases e:j=(i:Int);·subst e;simp
 exact TD
theorem RN(O:Nat->Bool)(i:Nat)(h:O i=false):(fun j=>if j=(i:Int)then none else qG (fun j=>O j||decide (j=i)) j)=qG O:=by
 funext j;unfold qG;by_cases e:j=(i:Int);·subst e;simp[h]
 exact TD
def zh(W:World)(M:List Nat)(L:Nat)(r:aS)(i:Nat):Prop:=W.frozen? ⟨L,i,none⟩=false/\∃A m c,W.cell? ⟨L,i,none⟩=some (.slice A m c)/\((m=0/\c=0)\/Sl bK W M A m c (Jd r i))
structure Ai(w W:World)(B rb ob mb cb gb lb L xb:Nat)(M:List Nat)(r:aS)(C:List Value)(A4:Option Addr)(n4 c4 n:Nat)(O:Nat->Bool):Prop where
 bl:Below w w W
 rc:W.cell? ⟨rb,4,none⟩=some (.slice A4 n4 c4)
 vo:aZ W ob (.map (some mb))
 vc:aZ W cb (.bool false)
 vg:aZ W gb (.bool false)
 vl:aZ W lb (.slice (some ⟨L,0,none⟩) n4 n4)
 vx:aZ W xb (.func (.func 217) #[] #[.pointer (some ⟨ob,0,none⟩),.pointer (some ⟨cb,0,none⟩),.pointer (some ⟨lb,0,none⟩),.pointer (some ⟨rb,0,none⟩),.pointer (some ⟨xb,0,none⟩),.pointer (some ⟨gb,0,none⟩)])
 mv:MV [.bool false,.bool true] W mb n (qG O)
 ts:Sl dA W M A4 n4 c4 r.ties
 rows:∀i,i<n4->zh W M L r i
 ge:w.heap.size<=rb/\w.heap.size<=ob/\w.heap.size<=mb/\w.heap.size<=cb/\w.heap.size<=gb/\w.heap.size<=lb/\w.heap.size<=L/\w.heap.size<=xb
 ne:rb≠L/\ob≠L/\mb≠L/\cb≠L/\gb≠L/\lb≠L/\xb≠L
 nm:rb≠mb/\ob≠mb/\cb≠mb/\gb≠mb/\lb≠mb/\xb≠mb
 lt:rb<B/\ob<B/\mb<B/\cb<B/\gb<B/\lb<B/\L<B/\xb<B
 BW:B<=W.heap.size
 wB:w.heap.size<=B
 mM:L∈M/\mb∈M
 hM:∀q,q∈M->q<W.heap.size
section
variable {w W W':World}{B rb ob mb cb gb lb L xb:Nat}{M:List Nat}{r:aS}{C:List Value}{A4:Option Addr}{n4 c4 n:Nat}{O:Nat→Bool}
theorem zh.keep{i:Nat}(h:zh W M L r i)(k:Keeps M W W')(hl:W'.heap[L]?=W.heap[L]?):zh W' M L r i:=by obtain⟨e,A,m,c,f,g⟩:=h;obtain⟨E,a⟩:=jB ⟨f,e⟩ hl;exact⟨a,A,m,c,E,g.imp id (fun h=>h.keep k)⟩
theorem Ai.kept{O':Nat->Bool}(h:Ai w W B rb ob mb cb gb lb L xb M r C A4 n4 c4 n O)(k:Keeps [mb] W W')(hb:Below w W W')(hm:MV [.bool false,.bool true] W' mb n' (qG O')):Ai w W' B rb ob mb cb gb lb L xb M r C A4 n4 c4 n' O':=by
 have kb:∀{b:Nat},b<W.heap.size->b≠mb->W'.heap[b]?=W.heap[b]?:=fun j o=>k.block _ j (by simpa using o);have f:Keeps M W W':=k.mono (fun q a=>by rw[bE]at a;subst a;exact h.mM.2);have g:L<W.heap.size:=h.hM _ h.mM.1;have p:W'.cell? ⟨rb,4,none⟩=some (.slice A4 n4 c4):=by rw[eR (w:=W) (kb (bu W _ h.rc) h.nm.1)];exact h.rc
 exact{ bl:=h.bl.trans hb,rc:=p,vo:=h.vo.block (kb h.vo.lt h.nm.2.1),vc:=h.vc.block (kb h.vc.lt h.nm.2.2.1),vg:=h.vg.block (kb h.vg.lt h.nm.2.2.2.1),vl:=h.vl.block (kb h.vl.lt h.nm.2.2.2.2.1),vx:=h.vx.block (kb h.vx.lt h.nm.2.2.2.2.2),mv:=hm,ts:=h.ts.keep f,rows:=fun i s=>(h.rows i s).keep f (kb g (fun e=>h.ne.2.2.1 e.symm)),ge:=h.ge,ne:=h.ne,nm:=h.nm,lt:=h.lt,BW:=cD h.BW k.size,wB:=h.wB,mM:=h.mM,hM:=fun q a=>cf (h.hM q a) k.size }
theorem Ai.go(h:Ai w W B rb ob mb cb gb lb L xb M r C A4 n4 c4 n O)(hb:Below W W W'):Ai w W' B rb ob mb cb gb lb L xb M r C A4 n4 c4 n O:=h.kept (a_ hb _) (hb.mono h.bl.size) (h.mv.go hb)
theorem Ai.row(h:Ai w W B rb ob mb cb gb lb L xb M r C A4 n4 c4 n O)(hs:Sl bK W M A m c (Jd r i))(hw:W.setCell ⟨L,i,none⟩ (.slice A m c)=W')(hi:i<n4):Ai w W' B rb ob mb cb gb lb L xb M r C A4 n4 c4 n O:=by
 subst hw;have k:Keeps [L] W (W.setCell ⟨L,i,none⟩ (.slice A m c)):=(cF _ _).setCell (p:=⟨L,i,none⟩) (.inl oO) _;have hb:Below w W (W.setCell ⟨L,i,none⟩ (.slice A m c)):=(bw _ W).setCell (p:=⟨L,i,none⟩) h.ge.2.2.2.2.2.2.1 _;have kb:∀{b:Nat},b<W.heap.size->b≠L->(W.setCell ⟨L,i,none⟩ (.slice A m c)).heap[b]?=W.heap[b]?:=fun y z=>k.block _ y (by simpa using z);have f:Keeps M W (W.setCell ⟨L,i,none⟩ (.slice A m c)):=k.mono (fun q a=>by rw[bE]at a;subst a;exact h.mM.1);refine{ bl:=h.bl.trans hb,rc:=?_,vo:=h.vo.block (kb h.vo.lt h.ne.2.1),vc:=h.vc.block (kb h.vc.lt h.ne.2.2.2.1),vg:=h.vg.block (kb h.vg.lt h.ne.2.2.2.2.1),vl:=h.vl.block (kb h.vl.lt h.ne.2.2.2.2.2.1),vx:=h.vx.block (kb h.vx.lt h.ne.2.2.2.2.2.2),mv:=h.mv.block (kb h.mv.lt h.ne.2.2.1),ts:=h.ts.keep f,rows:=fun j x=>?_,ge:=h.ge,ne:=h.ne,nm:=h.nm,lt:=h.lt,BW:=cD h.BW k.size,wB:=h.wB,mM:=h.mM,hM:=fun q a=>cf (h.hM q a) k.size };·rw[eR (w:=W) (kb (bu W _ h.rc) h.ne.1)];exact h.rc
 obtain⟨E,o,G,s,g,u⟩:=h.rows j x;by_cases e:j=i;·subst e;exact⟨by simp[go_sem,E],A,m,c,cZ g,.inr (hs.keep f)⟩
 exact⟨by simp[go_sem,E],o,G,s,by simp[go_sem,e,fun e':i=j=>e e'.symm,g],u.imp id (fun h=>h.keep f)⟩
theorem Ai.far(h:Ai w W B rb ob mb cb gb lb L xb M r C A4 n4 c4 n O)(k:Keeps M W W')(hb:Below B W W'):Ai w W' B rb ob mb cb gb lb L xb M r C A4 n4 c4 n O:=by
 have e:W'.cell? ⟨rb,4,none⟩=some (.slice A4 n4 c4):=by rw[eR (w:=W) (hb.block _ h.lt.1)];exact h.rc
 exact{ bl:=h.bl.trans (hb.mono h.wB),rc:=e,vo:=h.vo.block (hb.block _ h.lt.2.1),vc:=h.vc.block (hb.block _ h.lt.2.2.2.1),vg:=h.vg.block (hb.block _ h.lt.2.2.2.2.1),vl:=h.vl.block (hb.block _ h.lt.2.2.2.2.2.1),vx:=h.vx.block (hb.block _ h.lt.2.2.2.2.2.2.2),mv:=h.mv.block (hb.block _ h.lt.2.2.1),ts:=h.ts.keep k,rows:=fun i s=>(h.rows i s).keep k (hb.block _ h.lt.2.2.2.2.2.2.1),ge:=h.ge,ne:=h.ne,nm:=h.nm,lt:=h.lt,BW:=cD h.BW k.size,wB:=h.wB,mM:=h.mM,hM:=fun q a=>cf (h.hM q a) k.size }
theorem zh.lessM(h:zh W M L r i)(hs:∀q,q∈M'->q∈M):zh W M' L r i:=by obtain⟨a,A,m,c,e,f⟩:=h;exact⟨a,A,m,c,e,f.imp id (fun h=>h.less hs)⟩
theorem Ai.lessM{M':List Nat}(h:Ai w W B rb ob mb cb gb lb L xb M r C A4 n4 c4 n O)(hs:∀q,q∈M'->q∈M)(h1:L∈M'/\mb∈M'):Ai w W B rb ob mb cb gb lb L xb M' r C A4 n4 c4 n O:={ h with ts:=h.ts.less hs,rows:=fun i hi=>(h.rows i hi).lessM hs,mM:=h1,hM:=fun q hq=>h.hM q (hs q hq) }
theorem Ai.aiJ{g:Nat}(h:Ai w W B rb ob mb cb gb lb L xb M r C A4 n4 c4 n O)(hg:W.heap.size<=g)(k:Keeps M W W')(hb:Below B W W')(hl:g<W'.heap.size):Ai w W' B rb ob mb cb gb lb L xb (g::M) r C A4 n4 c4 n O:=by
 have e:=h.far k hb;have f:Keeps (g::M) W W':=k.mono (fun q a=>bz _ a);refine{ e with ts:=(h.ts.more hg).keep f,rows:=fun i s=>?_,mM:=⟨bz _ h.mM.1,bz _ h.mM.2⟩,hM:=fun q a=>?_ };·obtain⟨E,A,m,c,j,o⟩:=h.rows i s;obtain⟨G,N⟩:=jB ⟨j,E⟩ (hb.block _ h.lt.2.2.2.2.2.2.1);exact⟨N,A,m,c,G,o.imp id (fun h=>(h.more hg).keep f)⟩
 rcases cB.1 a with rfl|a;·exact hl
 exact e.hM q a
end
theorem Je{fr:Frame}{cs:List Frame}{w w':World}{d:Deferred}{ds:List Deferred}{b:Builtin}{at_:Array TypeId}{ty:TypeId}{co:Array Bool}(hm:fr.mode≠.run)(hd:fr.defers=d::ds)(ht:d.target=.builtin b at_ ty co)
 (hi:(invoke d.target d.args).run P w=.ok (.value v) w'):step P (lone fr cs w)=.next (lone { fr with defers:=ds } cs w'):=by
 obtain⟨t,a⟩:=d;simp only at ht hi;subst ht;refine step_lone_go ?_
 cases e:fr.mode with
 |run=>exact absurd e hm
 |returning=>exact Xo
 |panicking chain=>exact Xo
def zi(P:Program)(fn:Func)(R:Ending->World->Prop):Exit->Act->World->Prop
 | .normal,a,w| .ret,a,w=>(a.defers= []/\∃v,(results fn a.tmps).run P w=.ok v w/\R (.returned v) w)\/∃d b at_ ty co u w1 v,a.defers= [d]/\d.target=.builtin b at_ ty co/\(invoke d.target d.args).run P w=.ok (.value u) w1/\(results fn a.tmps).run P w1=.ok v w1/\R (.returned v) w1
 |_,_,_=>False
theorem Qm{n:Nat}{a:Act}{w:World}(h:zi P fn R .ret a w)(fr:Frame)(cs:List Frame)(hu:fr.mode=.returning)(hd:fr.defers=a.defers)(ht:fr.tmps=a.tmps)(hf:P.funcs[fr.fn]?=some fn)(hk:fr.kind=.normal)(hF:F.fn fr.fn)
 (hroom:F.room (cs.length+1+n)):∃e w' fr',R e w'/\ComesIn (Machine.fenced P F) P (lone fr cs w) (lone fr' cs w') e/\fr'.fn=fr.fn/\fr'.leaving P w' e:=by
 rcases h with⟨f,v,j,Q⟩|⟨d,b,at_,S,N,u,K,v,f,q,E,j,Q⟩;·exact leaves_stepsIn (tmps:=a.tmps) [] .returning w fr cs hu (hd.trans f) ht hf hk hF hroom ⟨v,j,Q⟩
 ·have o:=hd.trans f;have x:=Je (cs:=cs) (by rw[hu];simp) o q E;have I:(lone fr cs w).fenced P F:=fenced_out hF hroom (by rw[hu];simp) o (fun g p=>by rw[q]at p;simp[Target.leads]at p);obtain⟨s,J,fr',y,H,z,G⟩:=leaves_stepsIn (tmps:=a.tmps) (R:=R) (fn:=fn) [] .returning K { fr with defers:= [] } cs hu rfl ht hf hk hF hroom ⟨v,j,Q⟩;exact⟨s,J,fr',y,ComesIn.of_steps (.one I x) H,z,G⟩
theorem Aj{n:Nat}{f:FuncId}{c:Code}{w:World}(hf:P.funcs[f]?=some fn)(hb:fn.body=some c)(hF:F.fn f)
 (h:c.wpIn F n P (zi P fn R) { tmps:=args++Array.replicate (fn.ntmps-args.size) undef,defers:= [] } w) (hro:F.round=none:=by rfl):CallsIn F n P f args w R:=by
 refine⟨hF,fun cs g=>?_⟩;let b:Frame:={ (default:Frame)with fn:=f,kind:=.normal,roundOf:=none };have y:Frame.enter P f args .normal=b.atR { tmps:=args++Array.replicate (fn.ntmps-args.size) undef,defers:= [] } [.code c]:=by simp[Frame.enter,Frame.atR,hf,hb,b]
 obtain⟨e,j,w',a,q⟩:=h b [] cs hro.symm hF g;rw[<-y]at q
 cases e with
 |normal=>obtain⟨o,x,p,Q,hs,s,u⟩:=Qm (F:=F) (n:=n) a { b.atR j []with mode:=.returning } cs rfl rfl rfl hf rfl hF g;exact⟨o,x,p,Q,ComesIn.of_steps (StepsIn.trans q (.one (fenced_calm (fr:=b.atR j []) hF g rfl) (stepR_end rfl))) hs,s,u⟩
 |ret=>obtain⟨E,z⟩:=q.1 rfl;obtain⟨o,x,p,Q,hs,s,u⟩:=Qm (F:=F) (n:=n) a { b.atR j E with mode:=.returning } cs rfl rfl rfl hf rfl hF g;exact⟨o,x,p,Q,ComesIn.of_steps z hs,s,u⟩
 |panic chain=>exact a.elim
 |exit id=>exact a.elim
 |goto l=>exact a.elim
 |outgrown=>exact a.elim
theorem ahv{n:Nat}{f:Nat}{c:Code}{a':Array Value}{w:World}(hf:P.funcs[f]?=some fn)(hb:fn.body=some c)(hn:fn.ntmps=k)
 (h:c.wpIn F n P (zi P fn R) ⟨a', []⟩ w) (hF:F.fn f:=by exact trivial) (ha:args++Array.replicate (k-args.size) undef=a':=by(simp only[lf,et,gh,Nat.reduceAdd,Nat.reduceSub,gH,gL,iG,fk,de,dx];(first|done|exact rfl))) (hro:F.round=none:=by exact rfl):CallsIn F n P f args w R:=
 Aj hf hb hF (by rw[hn,ha];exact h) hro
attribute [local go_sem] cK
section
variable {w W W':World}{B rb ob mb cb gb lb L xb:Nat}{M:List Nat}{r:aS}{C:List Value}{A4:Option Addr}{n4 c4 n:Nat}{O:Nat→Bool}
structure Ue(w W wr:World)(B rb ob mb cb gb lb L xb:Nat)(M:List Nat)(r:aS)(C:List Value)(A4:Option Addr)(n4 c4 nb:Nat)(O:Nat->Bool)(v:Value)(l:List bK):Prop where
 x:∃n,n<=nb/\Ai w wr B rb ob mb cb gb lb L xb (bP v++M) r C A4 n4 c4 n O
 own:bD bK 113 wr M W.heap.size v l.length l
 kp:Keeps [L,mb] W wr
 BW:B<=W.heap.size
 hM:∀q,q∈M->q<W.heap.size
theorem Ue.app{ys:List bK}(h:Ue w W wr B rb ob mb cb gb lb L xb M r C A4 n4 c4 nb O v l)(hy:Sl bK wr (bP v++M) A m c ys)(hn:l.length+m<=100000):
 ∃v' w',(Builtin.append_ #[110,110] 110 #[v,.slice A m c]).run prog wr=.ok v' w'/\Ue w W w' B rb ob mb cb gb lb L xb M r C A4 n4 c4 nb O v' (l++ys):=by
 obtain⟨i,z,y,E,G,H,I⟩:=aaN;obtain⟨n,s,x⟩:=h.x;obtain⟨v',w',J,V,j,K⟩:=h.own.uy (t:=110) (ty:=110) h.kp.size underlying110 y E G H hy (by have:=gp hn I;omega) oE;have p:(l++ys).length=l.length+m:=by rw[cH,hy.len]
 have o:Keeps (bP v++M) wr w':=(cF _ wr).grown j (fun k g=>.inl (df _ (bJ.2 g)));have b1:Below B wr w':=(bw B wr).grown j x.BW (fun k g=>cD h.BW (h.own.lt g).1);refine⟨v',w',J,⟨n,s,?_⟩,by rw[p];exact V,h.kp.grown j (fun k g=>.inr (h.own.lt g).1),h.BW,h.hM⟩;rcases K with e|e
 ·have:bP v'=bP v:=by unfold bP;rw[e]
  rw[this];exact x.far o b1
 ·have u:bP v'= [wr.heap.size]:=by unfold bP;rw[e];rfl
  rw[u];refine(x.aiJ pc o b1 (V.lt e).2).lessM (fun q f=>?_) ⟨cL _ ?_,cL _ ?_⟩
  ·rcases cR.1 f with f|f;·rw[bE]at f;subst f;exact cd
   exact bz _ (cL _ f)
  ·have a:=x.mM.1;rcases cR.1 a with a|a;·have:=(h.own.lt (bJ.1 a)).1;have:=x.lt.2.2.2.2.2.2.1;have:=h.BW;omega
   exact a
  have a:=x.mM.2;rcases cR.1 a with a|a;·have:=(h.own.lt (bJ.1 a)).1;have:=x.lt.2.2.1;have:=h.BW;omega
  exact a
theorem Ue.go{wr wz:World}{nb:Nat}{v:Value}{l:List bK}(h:Ue w W wr B rb ob mb cb gb lb L xb M r C A4 n4 c4 nb O v l)(hb:Below wr wr wz):Ue w W wz B rb ob mb cb gb lb L xb M r C A4 n4 c4 nb O v l:=by obtain⟨n,a,x⟩:=h.x;exact⟨⟨n,a,x.go hb⟩,h.own.go hb,h.kp.trans (a_ hb _),h.BW,h.hM⟩
theorem Ue.call{wz:World}{nb':Nat}(h:Ue w W wr B rb ob mb cb gb lb L xb M r C A4 n4 c4 nb O v l)(hM:L∈M/\mb∈M)(x:Ai w wz B rb ob mb cb gb lb L xb (bP v++M) r C A4 n4 c4 n' O)(hn:n'<=nb')(k:Keeps [L,mb] wr wz):Ue w W wz B rb ob mb cb gb lb L xb M r C A4 n4 c4 nb' O v l:=⟨⟨n',hn,x⟩,h.own.apart k (fun q hq=>by
   exact Ub) (fun q hq e=>by
   have h1:=(h.own.lt e).1;have h2:=h.hM q (by exact Ub);omega),h.kp.trans k,h.BW,h.hM⟩
end
theorem Yi{w:World}{M:List Nat}{k:bK}(h0:w.cell? ⟨b,0,none⟩=some (.int .i64 k.1))(h1:w.cell? ⟨b,1,none⟩=some (.string k.2.1))(h2:w.cell? ⟨b,2,none⟩=some (.int .i64 k.2.2))(i1:i64 k.1)(i2:i64 k.2.2)(hb:b∉M):Sl bK w M (some ⟨b,0,none⟩) 1 1 [k]:=by
 refine⟨rfl,bh _,by simp[jG],oE,.inr ⟨b,0,rfl,fun j x hx=>?_⟩⟩
 match j,hx with
 |0,hx=>
  cases hx;refine⟨[.int .i64 k.1,.string k.2.1,.int .i64 k.2.2],⟨[_],_,rfl,⟨rfl,i1⟩, [_],_,rfl,rfl,⟨rfl,i2⟩⟩,hb,fun q u a=>?_⟩
  match q,a with
  |0,a=>cases a;exact h0
  |1,a=>cases a;exact h1
  |2,a=>cases a;exact h2
def XpC(r:aS)(rk:Nat->Nat)(i:Nat):Prop:=∀{w W:World}{B rb ob mb cb gb lb L xb:Nat}{M:List Nat}{C:List Value}{A4:Option Addr}{n4 c4 n:Nat}{O:Nat->Bool},Ai w W B rb ob mb cb gb lb L xb M r C A4 n4 c4 n O->(∀u,O u=true->rk i<rk u)->i<n4->n+5^(rk i+1)<=900000->Calls prog 217 #[.int .i64 (i:Int),.pointer (some ⟨ob,0,none⟩),.pointer (some ⟨cb,0,none⟩),.pointer (some ⟨lb,0,none⟩),.pointer (some ⟨rb,0,none⟩),.pointer (some ⟨xb,0,none⟩),.pointer (some ⟨gb,0,none⟩)] W fun e W'=>∃A m c n',e=.returned (.slice A m c)/\Sl bK W' M A m c (Jd r i)/\Ai w W' B rb ob mb cb gb lb L xb M r C A4 n4 c4 n' O/\n'<=n+5^(rk i+1)/\Keeps [L,mb] W W'
theorem Ob{r:aS}(T:T15 r rk):∀(i:Nat),(∀u,u<r.ties.length->rk u<rk i->XpC r rk u)->XpC r rk i:=by
 intro i ih w W B rb ob mb cb gb lb L xb M C A4 n4 c4 n O X hO hi hn;refine wid ?_;have aM:=X.ts.len;have aK:0<5^rk i:=Nat.pos_of_ne_zero oO;have ac:=hn;rw[lj]at ac;have aP:n4<=5:=by have:=T.few;omega
 have an:O i=false:=by
  cases e:O i with
  |false=>rfl
  |true=>have:=hO i e;omega
 have hl:=X.mv.look (k:=(i:Int)) underlying251 (show(zeroValue 4).run prog W=.ok (.bool false) W by kernel_rfl) oO oV;rw[Vm,an]at hl;simp only[fT,nA,Option.getD_none]at hl;obtain⟨f0,A,m,c,aT,hm⟩:=X.rows i hi;have o1:=X.vo.1;have l1:=X.vl.1;have o2:=X.vc.1;by_cases au:m=0
 ·subst au;obtain⟨t,ae⟩:=dW r.ties i oE;have ax:=KH T ae;have aq:=T.len i oE;have aF:=T.keys t (aR ae);obtain⟨W1,r1,al,ak⟩:=X.mv.store (k:=(i:Int)) (v:=.bool true) underlying251 oV oO oE;rw[RJ]at al;have k1:Keeps [mb] W W1:=(cF _ W).grown ak.grown (fun q g=>.inl (by cases g;exact cd));have E:=X.kept k1 ((bw _ W).grown ak.grown X.bl.size (fun q g=>by cases g;exact X.ge.2.2.1)) al;obtain⟨b,o,D,md,dd,rfl,⟨t0,t1⟩,hsk⟩:=E.ts.n_ ae;have aN:=hsk.len;have aV:=E.rc;have o3:=E.vo.1;have L0:Ue w W1 W1 B rb ob mb cb gb lb L xb M r C (some ⟨b,o,none⟩) n4 c4 (n+1) (fun j=>O j||decide (j=i)) (.slice none 0 0) []:=⟨⟨n+1,bh _,E⟩,bD.nil _ _ _,cF _ _,E.BW,E.hM⟩;have H:=Hd7 L0 ae hsk ax aq k1 aF;have s:=fB hO an X;clear L0 hsk ax aq k1 X al ak hm E hO hn;refine ahv func217 rfl ntmps217 ?_;gi_wp2;gi_loopw[9,38] (fun v9 i9 wr=>∃j:Nat,j<=md/\i9=.int .i64 j/\Hid (Ue w W1 wr B rb ob mb cb gb lb L xb M r C (some ⟨b,o,none⟩) n4 c4 (n+1+j*5^rk i) (fun j=>O j||decide (j=i)) v9 (zf r (t.2.take j)))) (fun _ i9 _=>md-(intOf i9).toNat);case atStart=>exact⟨0,bO _,rfl,Hd (by simpa[zf]using H.a)⟩
  case round=>
   obtain⟨j,hj,rfl,Q⟩:=hrel;by_cases aE:j<md
   ·obtain⟨k,Z⟩:=dW t.2 j oE;have ag:=H.c.keep (Q.out.kp.mono (M':=M) (fun q g=>by
     exact TJ))
    obtain⟨b2,o2,es,rfl,ah,ab⟩:=ag.get Z;obtain⟨rfl,aH,aJ⟩:=rd_key ah;have h0:wr.cell? ⟨b2,o2+j*3,none⟩=some (.int .i64 k.1):=ab.2 0 _ rfl;have h1:wr.cell? ⟨b2,o2+j*3+1,none⟩=some (.string k.2.1):=ab.2 1 _ rfl;have h2:wr.cell? ⟨b2,o2+j*3+2,none⟩=some (.int .i64 k.2.2):=ab.2 2 _ rfl;obtain⟨V1,ao,dD,S⟩:=fP (w:=wr) ((Fr.nil wr).a wr [.int .i64 k.1,.string k.2.1,.int .i64 k.2.2] 113);have N:=Q.out.go dD;have G:=KI r Z;have aa:=Vk r t.2 (j+1);have aj:Jd r i=zf r t.2:=H.d;rw[<-aj]at aa;by_cases V:k.1=5
    ·obtain⟨u,hu,ay,am⟩:=T.ref i t H.b k (aR Z) V;rw[if_pos V,hu,fp]at G;obtain⟨nn,ad,y⟩:=N.x;have aG:5^(rk u+1)<=5^rk i:=iu oE oE;have ap:(j+1)*5^rk i<=4*5^rk i:=dy _ (by have:=H.z;omega);rw[fX,fi]at ap;have hc:=ih u ay am y (fun q g=>by
      simp only[ik,du]at g;rcases g with g|rfl;·have:=s.a q g;omega
      exact am) oE oE
     have U:=h_ hc N (show nn+5^(rk u+1)<=n+1+(j+1)*5^rk i by rw[fX,fi];omega) G;have vx:=y.vx.1;have ar:=T.len u ay;have HU:=Hd2 ar (show(zf r (t.2.take (j+1))).length<=32 by have:=H.e;omega);rw[V]at ao;rw[hu]at ao;have g0:=S.aQ 0 0;have g2:=S.aQ 0 2;rw[V]at g0 h0;rw[hu]at g2 h2;clear hc N y G aG ap ad Z ah ab ag aa aj S dD ar
     gi_wp2_with (first
      |(gi_at_builtin;refine cY rfl fun K Y=>?_;refine aI _ _ _ rfl rfl rfl HR.out (Y _ _ ?_);clear Y K)
      |(refine Cl 217 U.a ?_;rintro e w4 ⟨A5,m5,c5,n5,rfl,hs5,J,ac,k5⟩;have XD:=hs5.len;obtain⟨v6,w6,I,L6⟩:=(U.b.call (nb':=n+1+(j+1)*5^rk i) s.v.mM J (cD ac U.c) k5).app hs5 (by
         have h1:=HU.a;have h2:=HU.u;have h3:=U.w;rw[h3,cH]at h2;omega)
        rw[<-U.w]at L6;have HR:=Hd I;have af:=Hd L6;clear I L6 hs5 J ac k5)
      |fail)
     exact⟨⟨j+1,oE,by go_num,af⟩,by simp[intOf];omega⟩
    rw[if_neg V]at G;obtain⟨V2,aL,oL,G2⟩:=fP (w:=V1) ((Fr.nil V1).a V1 [.int .i64 k.1,.string k.2.1,.int .i64 k.2.2] 113);have L2:=N.go oL;obtain⟨nn,ad,y⟩:=N.x;obtain⟨v6,w6,I,L6⟩:=L2.app (Yi (k:=k) (G2.aQ 0 0) (G2.aQ 0 1) (G2.aQ 0 2) aH aJ (fun g=>by have:=y.hM _ g;omega)) (by have:=H.e;rw[G,cH]at aa;simp at aa;omega);rw[<-G]at L6;obtain⟨nk,av,xk⟩:=L6.x;have af:=Hd ({ L6 with x:=⟨nk,cD av (by rw[fX,fi];omega),xk⟩ }:Ue w W1 w6 B rb ob mb cb gb lb L xb M r C (some ⟨b,o,none⟩) n4 c4 (n+1+(j+1)*5^rk i) (fun j=>O j||decide (j=i)) v6 (zf r (t.2.take (j+1))));have HR:=Hd I;refine op1 S ?_;intros;clear N L2 L6 y xk av ad I G aa aj Z ah ab ag S G2 dD oL
    gi_wp2_with (first
     |(gi_at_builtin;refine cY rfl fun K Y=>?_;refine aI _ _ _ rfl rfl rfl HR.out (Y _ _ ?_);clear Y K)
     |fail)
    exact⟨⟨j+1,oE,by go_num,af⟩,by simp[intOf];omega⟩
   ·have ej:j=md:=oE;clear hj aE;subst ej;obtain⟨nn,ad,y⟩:=Q.out.x;have aD:zf r (t.2.take j)=Jd r i:=by
     rw[H.d,bL oE];rfl
    have ai:=Q.out.own;rw[aD]at ai;obtain⟨Av,cv,rfl⟩:=ai.shape;obtain⟨_,_,e9,aw⟩:=ai.sl (by have:=H.e;omega) (fun q g=>Q.out.hM q g);cases e9;have l9:¬((32:Int)<((Jd r i).length:Nat)):=by have:=H.e;omega
    obtain⟨W5,CZ⟩:=aC (wr.setCell ⟨L,i,none⟩ (.slice Av (Jd r i).length cv));have x2:=y.lessM (M':=M) (fun q g=>cL _ g) s.v.mM;have J:=x2.row aw CZ hi;obtain⟨W6,I,aA,az⟩:=J.mv.drop (k:=(i:Int)) underlying251 oV 0;rw[RN O i s.b]at aA;have vl:=x2.vl.1;have gv:=x2.vg.1;obtain⟨f9,A9,m9,c9,q9,-⟩:=x2.rows i hi;gi_wp2;have k5:Keeps [L,mb] wr W5:=by rw[<-CZ];exact(cF _ _).setCell (p:=⟨L,i,none⟩) (.inl oO) _
    have k6:Keeps [mb] W5 W6:=(cF _ W5).grown az.grown (fun q g=>.inl (by cases g;exact cd));have k7:Keeps [L,mb] wr W6:=k5.trans (k6.mono (fun q g=>bz _ g));have aB:∀q,q∈ [L,mb]->q∈M:=fun q g=>by exact TJ
    have x6:=J.kept k6 ((bw _ W5).grown az.grown J.bl.size (fun q g=>by cases g;exact J.ge.2.2.1)) aA;have h4:=H.z;have hb4:j*5^rk i<=4*5^rk i:=dy _ oE;exact .inr ⟨_,.delete,_,_,_,.tuple #[],W6,.slice Av (Jd r i).length cv,rfl,rfl,by simp[invoke,builtin,I,Result.andThen],by simp[results,go_sem],Av,_,cv,rfl,aw.keep (k7.mono aB),nn,x6,by rw[lj];omega,((H.f.mono (fun q g=>bz _ g)).trans Q.out.kp).trans k7⟩
 have HX:=Hd2 X (hm.resolve_left (fun h=>au h.1));have aO:0<m:=oE;clear hm;refine ahv func217 rfl ntmps217 ?_;gi_wp2;exact .inl ⟨rfl,.slice A m c,by simp[results,go_sem],A,m,c,n,rfl,HX.u,HX.a,Nat.le_add_right _ _,cF _ _⟩
theorem Dt{r:aS}{rk:Nat->Nat}(T:T15 r rk):∀(N i:Nat),rk i<N->XpC r rk i
 |0,_,h=>by omega
 |N+1,i,h=>Ob T i (fun u _ hu=>Dt T N u oE)
theorem Oc:(prog.info? 110).map (fun i=>(i.zero,i.size,i.bytes))=some (some (.slice none 0 0),1,24):=oF
theorem RP(N:Nat):madeCells (Value.slice none 0 0).cells (N*1)=(Array.replicate N (Value.slice none 0 0)):=by
 apply oB;·simp[madeCells]
 intro i a f;exact Ll
theorem Yj(N:Nat)(hN:N<=1000000)(w:World):(Instr.makeSlice 161 (.int .i64 (N:Int)) (.int .i64 (N:Int))).run prog w=.ok (.slice (some ⟨w,0,none⟩) N N) (w.alloc (.cells (Array.replicate N (Value.slice none 0 0)) 110)):=by obtain⟨g,s,a,e,f⟩:=kO Oc;have:=run_make (P:=prog) w 161 110 g (.slice none 0 0) underlying161 s a .i64 .i64 (N:Int) (N:Int) oE (Int.le_refl _) (by rw[f];omega) oE;rw[this,e];simp only[fp,RP]
theorem Yk(w:World):(Instr.makeMap 251 none).run prog w=.ok (.map (some w.heap.size)) (w.alloc (.map #[] 0)):=by rfl
def Vo(W:World)(M:List Nat)(L n:Nat)(r:aS):Prop:=∀i,i<n->zh W M L r i
theorem Yl{w:World}(v:Value)(t:TypeId)(hb:b=w.heap.size):aZ (w.alloc (.cells #[v] t)) b v:=by exact EN
theorem Du{M:List Nat}{r:aS}{w:World}(hr:dG w M r s1 s2 s3 s4 s5 s6 s7)(T:T15 r rk)(hM:b_ M w):
 Calls prog 163 #[.agg (aV r s1 s2 s3 s4 s5 s6 s7).toArray] w fun e w'=>∃L,e=.returned (.tuple #[.slice (some ⟨L,0,none⟩) s4.n s4.n,.int .i64 0])/\Vo w' M L s4.n r/\w.heap.size<=L/\Below w w w':=by
 refine wid ?_;obtain⟨A4,n4,c4⟩:=s4;have am:r.ties.length=n4:=hr.ties.len;have an:n4<=5:=by have:=T.few;omega
 have mm:=Yk;have mk:=Yj n4 oE;obtain⟨W1,al,F1⟩:=dR (((Fr.nil w).a w [.string r.name,.slice s1.A s1.n s1.c,.slice s2.A s2.n s2.c,.slice s3.A s3.n s3.c,.slice A4 n4 c4,.slice s5.A s5.n s5.c,.slice s6.A s6.n s6.c,.slice s7.A s7.n s7.c,.int .i64 r.best] 28).a (w+1) [.slice none 0 0] 161);obtain⟨f,J⟩:=aC ((((W1.alloc (.map #[] 0)).alloc (.cells #[.map (some W1.heap.size)] 251)).alloc (.cells #[.bool false] 4)).alloc (.cells #[.bool false] 4));have bm:Below W1 W1 (W1.alloc (.map #[] 0)):=by exact bel
 have F3:Fr w f ([]++ [(w.heap.size, [.string r.name,.slice s1.A s1.n s1.c,.slice s2.A s2.n s2.c,.slice s3.A s3.n s3.c,.slice A4 n4 c4,.slice s5.A s5.n s5.c,.slice s6.A s6.n s6.c,.slice s7.A s7.n s7.c,.int .i64 r.best])]++ [(w.heap.size+1, [.slice none 0 0])]++ [(W1.heap.size+1, [.map (some W1.heap.size)])]++ [(W1.heap.size+1+1, [.bool false])]++ [(W1.heap.size+1+1+1, [.bool false])]):=by rw[<-J];exact(((F1.go bm).a (W1+1) _ _).a (W1+1+1) _ _).a (W1+1+1+1) _ _
 have z3:f.heap.size=W1.heap.size+4:=by rw[<-J];simp
 have yY:Below (W1.alloc (.map #[] 0)).heap.size (W1.alloc (.map #[] 0)) f:=by rw[<-J];exact bel
 obtain⟨h,E⟩:=aC (f.alloc (.cells (Array.replicate n4 (Value.slice none 0 0)) 110));have s:Below f f h:=by rw[<-E];exact bel
 obtain⟨g,S⟩:=aC (h.setCell ⟨w+1,0,none⟩ (.slice (some ⟨f,0,none⟩) n4 n4));have z:KB (w.heap.size+1) h g:=by rw[<-S];exact KB.put (v:=.slice none 0 0) ⟨(F3.go s).aQ 1 0,(F3.go s).zN 1 0⟩
 obtain⟨j,G⟩:=aC (g.alloc (.cells #[.func (.func 217) #[] #[.pointer (some ⟨W1+1,0,none⟩),.pointer (some ⟨W1+1+1,0,none⟩),.pointer (some ⟨w+1,0,none⟩),.pointer (some ⟨w,0,none⟩),.pointer (some ⟨g,0,none⟩),.pointer (some ⟨W1+1+1+1,0,none⟩)]] 252));have x:Below g g j:=by rw[<-G];exact bel
 have ah:h.heap.size=f.heap.size+1:=by rw[<-E];simp
 have aj:j.heap.size=g.heap.size+1:=by rw[<-G];simp
 have ao:=F1.mJ 1;have ap:=F3.mJ 4;have ai:=z.k.size;have o:∀b,b<h.heap.size->b≠w.heap.size+1->j.heap[b]?=h.heap[b]?:=fun b hb ae=>(x.block b (cf hb ai)).trans (z.k.block b hb (by simpa using ae));have F4:=F3.go s;have I:Below w w j:=(F4.bl.trans (z.bl.mono oE)).trans (x.mono oE);have Q:aZ g (w.heap.size+1) (.slice (some ⟨f,0,none⟩) n4 n4):=by rw[<-S];exact aZ.put (v:=.slice none 0 0) ⟨F4.aQ 1 0,F4.zN 1 0⟩
 have ab:MV [.bool false,.bool true] h W1.heap.size 0 (qG fun _=>false):=by have:=MV.new [.bool false,.bool true] W1;rw[show qG (fun _=>false)=fun _=>none from funext fun k=>by simp[qG]];exact(this.go yY).go s
 have H:Ai w j j.heap.size w.heap.size (W1.heap.size+1) W1.heap.size (W1.heap.size+1+1) (W1.heap.size+1+1+1) (w.heap.size+1) f.heap.size g.heap.size (f.heap.size::W1.heap.size::M) r [] A4 n4 c4 0 (fun _=>false):=by
  have vx:=Yl (w:=g) (b:=g) (.func (.func 217) #[] #[.pointer (some ⟨W1+1,0,none⟩),.pointer (some ⟨W1+1+1,0,none⟩),.pointer (some ⟨w+1,0,none⟩),.pointer (some ⟨w,0,none⟩),.pointer (some ⟨g,0,none⟩),.pointer (some ⟨W1+1+1+1,0,none⟩)]) 252 rfl;rw[G]at vx;refine{ bl:=I,rc:=?_,vo:=aZ.block ⟨F4.aQ 2 0,F4.zN 2 0⟩ (o _ oE oE),vc:=aZ.block ⟨F4.aQ 3 0,F4.zN 3 0⟩ (o _ oE oE),vg:=aZ.block ⟨F4.aQ 4 0,F4.zN 4 0⟩ (o _ oE oE),vl:=Q.block (x.block _ Q.lt),vx:=vx,mv:=ab.block (o _ oE oE),ts:=?_,rows:=fun i N=>?_,ge:=by omega,ne:=by omega,nm:=by omega,lt:=by omega,BW:=bh _,wB:=by omega,mM:=⟨cd,bz _ cd⟩,hM:=fun q p=>?_ };·rw[eR (w:=h) (o _ (by show w.heap.size<_;omega) (by show w.heap.size≠_;omega))];exact F4.aQ 0 4
  ·exact((hr.ties.more (b:=W1) oE).more (b:=f) oE).keep (a_ I _)
  ·have hn:h.heap[f.heap.size]?=some (.cells (Array.replicate n4 (Value.slice none 0 0)) 110 (0,0)):=by rw[<-E];exact gl f _
   have hc:h.cell? ⟨f,i,none⟩=some (.slice none 0 0)/\h.frozen? ⟨f,i,none⟩=false:=by unfold World.cell? World.frozen?;simp only[hn];simp[N]
   obtain⟨g1,g2⟩:=jB hc (o _ oE oE);exact⟨g2,none,0,0,g1,.inl ⟨rfl,rfl⟩⟩
  rcases cB.1 p with rfl|p;·omega
  rcases cB.1 p with rfl|p;·omega
  have:=hM q p;omega
 have HX:=Hd H;have ak:=F4.aQ 0 4;have d4:j.cell? ⟨w,4,none⟩=_:=H.rc;have e4:=F3.aQ 0 4;have q1:=F3.aQ 3 0;have q2:=F3.zN 3 0;have q3:=F3.aQ 4 0;have q4:=F3.zN 4 0;have q5:=aN q1;have q6:=aN q3;have e5:=F4.aQ 1 0;have e6:=F4.zN 1 0;clear H F4 F3 F1 z x s bm yY o I Q ab hr z3 ah aj;refine ent func163 rfl ntmps163 ?_;gi_wp2;gi_loopw[18] (fun i wr=>∃k:Nat,k<=n4/\i=.int .i64 k/\Hid (∃n,n<=k*3125/\Ai w wr j.heap.size w.heap.size (W1.heap.size+1) W1.heap.size (W1.heap.size+1+1) (W1.heap.size+1+1+1) (w.heap.size+1) f.heap.size g.heap.size (f.heap.size::W1.heap.size::M) r [] A4 n4 c4 n (fun _=>false))) (fun i _=>n4-(intOf i).toNat);case atStart=>exact⟨0,bO _,rfl,⟨0,bO _,HX.out⟩⟩
 case round=>
  obtain⟨k,hk,rfl,K⟩:=hrel;by_cases Y:k<n4
  ·obtain⟨nn,y,X⟩:=K.out;have x1:=X.vx.1;have ag:=T.top k oE;have Z:(5:Nat)^(rk k+1)<=5^5:=iu oE oE;have aa:(5:Nat)^5=3125:=oR;have HE:=Hd (Dt T (rk k+1) k (eS _) X (fun u hu=>by cases hu) Y oE);have HP:=Hd (And.intro y (And.intro Z aa));clear X y Z aa ag
   gi_wp2_with (first
    |(refine Cl 217 HE.out ?_;rintro e w2 ⟨A',m',c',n',rfl,af,V,ad,k2⟩;have Zy:Hid (∃n,n<=(k+1)*3125/\Ai w w2 j.heap.size w.heap.size (W1.heap.size+1) W1.heap.size (W1.heap.size+1+1) (W1.heap.size+1+1+1) (w.heap.size+1) f.heap.size g.heap.size (f.heap.size::W1.heap.size::M) r [] A4 n4 c4 n (fun _=>false)):=by
       have:=HP.out;exact⟨n',oE,V⟩
      clear af V ad k2)
    |fail)
   exact⟨⟨k+1,oE,by go_num,Zy⟩,by simp[intOf];omega⟩
  ·have ac:k=n4:=oE;clear hk Y;subst ac;obtain⟨nn,y,X⟩:=K.out;have x1:=X.vc.1;have x2:=X.vg.1;have x3:=X.vl.1;have x4:=X.vl.2;have x5:=aN x3;have U:=Hd (And.intro X.rows (And.intro X.ge.2.2.2.2.2.2.1 X.bl));clear X K y;gi_wp2;refine⟨rfl,.tuple #[.slice (some ⟨f,0,none⟩) k k,.int .i64 0],by simp[results,go_sem,x3],f.heap.size,rfl,fun i N=>(U.a i N).lessM (fun q p=>bz _ (bz _ p)),U.u⟩
end
section
open Go.RowKit Go.Shelf
theorem Vp(x:aU):ZO x:=by
 induction x using iY with
 |_ x ih=>
 intro y M M' A B m c m' c' w hx j;refine wid ?_;have f:=KA x y;have IH:=Hd ih;obtain⟨l,S⟩:=aC x.l;obtain⟨l',V⟩:=aC y.l;obtain⟨X,E⟩:=aC (fE x y);rw[S]at hx IH f;rw[V]at j f;rw[E]at f |-;obtain⟨kd,I⟩:=aC x.kind;obtain⟨nm,J⟩:=aC x.name;obtain⟨xn,T⟩:=aC x.n;obtain⟨xd,Q⟩:=aC x.d;obtain⟨Z,q⟩:=aC y.kind;obtain⟨o,K⟩:=aC y.name;obtain⟨yn,Y⟩:=aC y.n;obtain⟨yd,U⟩:=aC y.d;rw[I,J,T,Q,q,K,Y,U]at f |-;clear I J T Q q K Y U S V E ih;obtain⟨W1,ac,F1⟩:=dR (((Fr.nil w).a w [.int .i64 kd,.string nm,.int .i64 xn,.int .i64 xd,.slice A m c] 66).a (w+1) [.int .i64 Z,.string o,.int .i64 yn,.int .i64 yd,.slice B m' c'] 66);refine op1 F1 ?_;intros;have HB:=Hd F1.bl;have p:=Hd2 (hx.go F1.bl) (j.go F1.bl);have g:=Hd f;clear F1 hx j f;by_cases G:kd=Z
 ·subst G;by_cases N:nm=o
  ·subst N;by_cases s:xn=yn
   ·subst s;by_cases z:xd=yd
    ·subst z;have HX:=Hd (show X=fQ l l' by rw[g.out];simp);refine ent func203 rfl ntmps203 ?_
     gi_wp2_with (first
      |(refine Cl 250 (Yd p.a p.u IH.out) ?_;rintro e w2 ⟨rfl,H⟩;have aa:=Hd (HB.out.trans (H.mono HB.out.size));clear H)
      |fail)
     go_ret;exact⟨by rw[HX.out];rfl,aa.out⟩
    have HX:=Hd (show X=false by rw[g.out];simp[z]);exact A_
   have HX:=Hd (show X=false by rw[g.out];simp[s]);exact A_
  have HX:=Hd (show X=false by rw[g.out];simp[N]);have ab:¬nm.toList=o.toList:=fun h=>N (nB (Array.ext' (by rwa [Lib.toList_data,Lib.toList_data]at h)));exact A_
 have HX:=Hd (show X=false by rw[g.out];simp[G]);exact A_
def eqF{α:Type}(P:α->α->Bool):List α->List α->Bool
 | [], []=>true
 |x::l,y::l'=>P x y&&eqF P l l'
 |_,_=>false
theorem Jf{α:Type}(P:α->α->Bool):∀{l l':List α},l.length≠l'.length->eqF P l l'=false
 | [], [],h=>absurd rfl h
 | [],_::_,_=>rfl
 |_::_, [],_=>rfl
 |x::l,y::l',h=>by rw[eqF,Jf P (fun e=>h (by simp[e])),Bool.and_false]
theorem KO{α:Type}(P:α->α->Bool){l l':List α}{x y:α}(hx:l[k]?=some x)(hy:l'[k]?=some y):eqF P (l.drop k) (l'.drop k)=(P x y&&eqF P (l.drop (k+1)) (l'.drop (k+1))):=by obtain⟨a,e⟩:=bj.1 hx;obtain⟨f,g⟩:=bj.1 hy;have G:=cT a;have N:=cT f;rw[G,N,eqF,e,g]
def abU(x y:dA):Bool:=decide (x.2=y.2)
def vW(x y:aJ):Bool:=decide (x.2.2.2.2.2.2.2.2=y.2.2.2.2.2.2.2.2)&&fE (au x) (au y)
theorem Vq{x y:dA}{M:List Nat}{B:Option Addr}{n:Nat}{w:World}(hx:Sl bK w M A n c x.2)(hy:Sl bK w M' B m d y.2):
 CB 199 #[.agg #[.string x.1,.slice A n c],.agg #[.string y.1,.slice B m d]] (.bool (abU x y)) w:=by
 refine wid ?_;obtain⟨W1,j,F1⟩:=dR (((Fr.nil w).a w [.string x.1,.slice A n c] 142).a (w+1) [.string y.1,.slice B m d] 142);refine op1 F1 ?_;intros;have HB:=Hd F1.bl;have f:=Hd2 (hx.go F1.bl) (hy.go F1.bl);clear F1 hx hy;refine ent func199 rfl ntmps199 ?_
 gi_wp2_with (first
  |(refine Cl 200 (Ya f.a f.u) ?_;rintro e o ⟨rfl,g⟩;have h:=Hd (HB.out.trans (g.mono HB.out.size));clear g)
  |fail)
 go_ret;exact⟨rfl,h.out⟩
theorem Vr{x y:aJ}{M:List Nat}{B:Option Addr}{n:Nat}{w:World}(hx:Sl aU w M A n c (au x).l)(hy:Sl aU w M' B m d (au y).l):
 CB 202 #[.agg #[.string x.1,.int .i64 x.2.1,.int .i64 x.2.2.1,.int .i64 x.2.2.2.1,.bool x.2.2.2.2.1,.bool x.2.2.2.2.2.1,.int .i64 (au x).kind,.string (au x).name,.int .i64 (au x).n,.int .i64 (au x).d,.slice A n c,.string x.2.2.2.2.2.2.2.1,.int .i64 x.2.2.2.2.2.2.2.2],.agg #[.string y.1,.int .i64 y.2.1,.int .i64 y.2.2.1,.int .i64 y.2.2.2.1,.bool y.2.2.2.2.1,.bool y.2.2.2.2.2.1,.int .i64 (au y).kind,.string (au y).name,.int .i64 (au y).n,.int .i64 (au y).d,.slice B m d,.string y.2.2.2.2.2.2.2.1,.int .i64 y.2.2.2.2.2.2.2.2]] (.bool (vW x y)) w:=by
 refine wid ?_;obtain⟨h,f⟩:=aC x.2.2.2.2.2.2.2.2;obtain⟨j,g⟩:=aC y.2.2.2.2.2.2.2.2;have o:=Hd (show vW x y=(decide (h=j)&&fE (au x) (au y)) by unfold vW;rw[f,g]);rw[f,g];clear f g;obtain⟨W1,z,F1⟩:=dR (((Fr.nil w).a w [.string x.1,.int .i64 x.2.1,.int .i64 x.2.2.1,.int .i64 x.2.2.2.1,.bool x.2.2.2.2.1,.bool x.2.2.2.2.2.1,.int .i64 (au x).kind,.string (au x).name,.int .i64 (au x).n,.int .i64 (au x).d,.slice A n c,.string x.2.2.2.2.2.2.2.1,.int .i64 h] 68).a (w+1) [.string y.1,.int .i64 y.2.1,.int .i64 y.2.2.1,.int .i64 y.2.2.2.1,.bool y.2.2.2.2.1,.bool y.2.2.2.2.2.1,.int .i64 (au y).kind,.string (au y).name,.int .i64 (au y).n,.int .i64 (au y).d,.slice B m d,.string y.2.2.2.2.2.2.2.1,.int .i64 j] 68);refine op1 F1 ?_;intros;have HB:=Hd F1.bl;have p:=Hd2 (hx.go F1.bl) (hy.go F1.bl);clear F1 hx hy;by_cases S:h=j
 ·subst S;refine ent func202 rfl ntmps202 ?_
  gi_wp2_with (first
   |(refine Cl 203 (Vp (au x) (y:=au y) p.a p.u) ?_;rintro e E ⟨rfl,q⟩;have s:=Hd (HB.out.trans (q.mono HB.out.size));clear q)
   |fail)
  go_ret;exact⟨by rw[o.out];simp,s.out⟩
 ·have HX:=Hd (show vW x y=false by rw[o.out];simp[S]);refine ent func202 rfl ntmps202 ?_;exact aj9
theorem Ym{M:List Nat}{B:Option Addr}{n:Nat}{l l':List dA}{w:World}(hx:Sl dA w M A n c l)(hy:Sl dA w M' B m d l'):
 CB 198 #[.slice A n c,.slice B m d,.func (.func 199) #[] #[]] (.bool (eqF abU l l')) w:=by
 refine wid ?_;have E:=hx.len;have G:=hy.len;have af:=hx.small;have eg:=eK (P:=prog) func199 oF rfl;by_cases ac:n=m
 ·subst ac;have H:=Hd2 hx hy;have HL:=Hd2 E G;have aa:=Hd (bw w w);have Un:=Hd (show eqF abU (l.drop 0) (l'.drop 0)=eqF abU l l' by simp);clear hx hy E G;refine ent func198 rfl ntmps198 ?_;gi_wp2;gi_loopw[17] (fun i wr=>∃k:Nat,k<=n/\i=.int .i64 k/\Hid (Below w w wr)/\Hid (eqF abU (l.drop k) (l'.drop k)=eqF abU l l')) (fun i _=>n-(intOf i).toNat);case atStart=>exact⟨0,bO _,rfl,aa,Un⟩
  case round=>
   obtain⟨k,hk,rfl,g,z⟩:=hrel;by_cases I:k<n
   ·obtain⟨x,J⟩:=dW l k (by rw[HL.a];exact I);obtain⟨y,K⟩:=dW l' k (by rw[HL.u];exact I);have X:=KO abU J K;obtain⟨b1,o1,Y,m1,d1,rfl,⟨p0,p1⟩,hs1⟩:=(H.a.go g.out).n_ J;obtain⟨U,ad,f,N⟩:=fP (w:=wr) ((Fr.nil wr).a wr [.string x.1,.slice Y m1 d1] 142);obtain⟨b2,o2,B2,m2,d2,rfl,⟨q0,q1⟩,hs2⟩:=((H.u.go g.out).go f).n_ K;obtain⟨V2,ae,o,Q⟩:=fP (w:=U) ((N).a U [.string y.1,.slice B2 m2 d2] 142);refine op1 Q ?_;intros;obtain⟨q,V⟩:=aC (abU x y);have S:=Hd (Vq (x:=x) (y:=y) ((hs1.go f).go o) (hs2.go o));have Z:=Hd V;have T:=Hd X;have j:=Hd (g.out.trans ((f.trans (o.mono f.size)).mono g.out.size));clear J K X hs1 hs2 V N Q f o;cases q
    ·gi_wp2_with (first
       |(refine Cl 199 S.out ?_;rintro e w2 ⟨rfl,h⟩;rw[Z.out];have p:=Hd (j.out.trans (h.mono j.out.size));clear h)
       |fail)
     go_ret;exact⟨by rw[<-z.out,T.out,Z.out];rfl,p.out⟩
    gi_wp2_with (first
     |(refine Cl 199 S.out ?_;rintro e w2 ⟨rfl,h⟩;rw[Z.out];have p:=Hd (j.out.trans (h.mono j.out.size));clear h)
     |fail)
    exact QL
   ·have ab:k=n:=oE;clear hk I;subst ab;have s:=Hd (show eqF abU l l'=true by
     exact Xa)
    gi_wp2;go_ret;exact⟨by rw[s.out];rfl,g.out⟩
 ·have s:=Hd (show eqF abU l l'=false from Jf abU oE);clear hx hy E G;refine ent func198 rfl ntmps198 ?_;gi_wp2;go_ret;exact⟨by rw[s.out];rfl,bw _ _⟩
theorem Yn{M:List Nat}{B:Option Addr}{n:Nat}{l l':List aJ}{w:World}(hx:Sl aJ w M A n c l)(hy:Sl aJ w M' B m d l'):
 CB 201 #[.slice A n c,.slice B m d,.func (.func 202) #[] #[]] (.bool (eqF vW l l')) w:=by
 refine wid ?_;have E:=hx.len;have G:=hy.len;have af:=hx.small;have eg:=eK (P:=prog) func202 oF rfl;by_cases ac:n=m
 ·subst ac;have H:=Hd2 hx hy;have HL:=Hd2 E G;have aa:=Hd (bw w w);have Un:=Hd (show eqF vW (l.drop 0) (l'.drop 0)=eqF vW l l' by simp);clear hx hy E G;refine ent func201 rfl ntmps201 ?_;gi_wp2;gi_loopw[17] (fun i wr=>∃k:Nat,k<=n/\i=.int .i64 k/\Hid (Below w w wr)/\Hid (eqF vW (l.drop k) (l'.drop k)=eqF vW l l')) (fun i _=>n-(intOf i).toNat);case atStart=>exact⟨0,bO _,rfl,aa,Un⟩
  case round=>
   obtain⟨k,hk,rfl,g,z⟩:=hrel;by_cases I:k<n
   ·obtain⟨x,J⟩:=dW l k (by rw[HL.a];exact I);obtain⟨y,K⟩:=dW l' k (by rw[HL.u];exact I);have X:=KO vW J K;obtain⟨b1,o1,Y,m1,d1,rfl,⟨p0,p1,p2,p3,p4,p5⟩,⟨p6,p7,p8,p9,p10⟩,⟨p11,p12⟩,-,-,hs1⟩:=(H.a.go g.out).iw J;obtain⟨U,ad,f,N⟩:=fP (w:=wr) ((Fr.nil wr).a wr [.string x.1,.int .i64 x.2.1,.int .i64 x.2.2.1,.int .i64 x.2.2.2.1,.bool x.2.2.2.2.1,.bool x.2.2.2.2.2.1,.int .i64 (au x).kind,.string (au x).name,.int .i64 (au x).n,.int .i64 (au x).d,.slice Y m1 d1,.string x.2.2.2.2.2.2.2.1,.int .i64 x.2.2.2.2.2.2.2.2] 68);obtain⟨b2,o2,B2,m2,d2,rfl,⟨q0,q1,q2,q3,q4,q5⟩,⟨q6,q7,q8,q9,q10⟩,⟨q11,q12⟩,-,-,hs2⟩:=((H.u.go g.out).go f).iw K;obtain⟨V2,ae,o,Q⟩:=fP (w:=U) ((N).a U [.string y.1,.int .i64 y.2.1,.int .i64 y.2.2.1,.int .i64 y.2.2.2.1,.bool y.2.2.2.2.1,.bool y.2.2.2.2.2.1,.int .i64 (au y).kind,.string (au y).name,.int .i64 (au y).n,.int .i64 (au y).d,.slice B2 m2 d2,.string y.2.2.2.2.2.2.2.1,.int .i64 y.2.2.2.2.2.2.2.2] 68);refine op1 Q ?_;intros;obtain⟨q,V⟩:=aC (vW x y);have S:=Hd (Vr (x:=x) (y:=y) ((hs1.go f).go o) (hs2.go o));have Z:=Hd V;have T:=Hd X;have j:=Hd (g.out.trans ((f.trans (o.mono f.size)).mono g.out.size));clear J K X hs1 hs2 V N Q f o;cases q
    ·gi_wp2_with (first
       |(refine Cl 202 S.out ?_;rintro e w2 ⟨rfl,h⟩;rw[Z.out];have p:=Hd (j.out.trans (h.mono j.out.size));clear h)
       |fail)
     go_ret;exact⟨by rw[<-z.out,T.out,Z.out];rfl,p.out⟩
    gi_wp2_with (first
     |(refine Cl 202 S.out ?_;rintro e w2 ⟨rfl,h⟩;rw[Z.out];have p:=Hd (j.out.trans (h.mono j.out.size));clear h)
     |fail)
    exact QL
   ·have ab:k=n:=oE;clear hk I;subst ab;have s:=Hd (show eqF vW l l'=true by
     exact Xa)
    gi_wp2;go_ret;exact⟨by rw[s.out];rfl,g.out⟩
 ·have s:=Hd (show eqF vW l l'=false from Jf vW oE);clear hx hy E G;refine ent func201 rfl ntmps201 ?_;gi_wp2;go_ret;exact⟨by rw[s.out];rfl,bw _ _⟩
theorem Dv{α:Type}{P:α->α->Bool}:∀{l:List α},(∀x,x∈l->P x x=true)->eqF P l l=true
 | [],_=>rfl
 |x::l,h=>by rw[eqF,h x cd,Dv (fun y hy=>h y (bz _ hy))];rfl
mutual
theorem Oe:∀x:aU,fE x x=true
 | .mk k s n d l=>by rw[fE,aac l];simp
theorem aac:∀l:List aU,fQ l l=true
 | []=>by rw[fQ]
 |x::l=>by rw[fQ,Oe x,aac l];rfl
end
theorem RQ{M:List Nat}{r:aS}{w:World}(hr:dG w M r s1 s2 s3 s4 s5 s6 s7)(hg:ZH r)(ht:Tab w)(hM:b_ M w):
 CB 161 #[.agg (aV r s1 s2 s3 s4 s5 s6 s7).toArray] (.int .i64 0) w:=by
 refine wid ?_;obtain⟨W1,y,F1⟩:=dR ((Fr.nil w).a w (aV r s1 s2 s3 s4 s5 s6 s7) 28);refine op1 F1 ?_;intros;have H:=h_ (hr.go F1.bl) hg (tab_below ht F1.bl) (hM.le F1.bl.size);have HF:=Hd F1;clear F1 hr hg ht hM;refine ent func161 rfl ntmps161 ?_
 gi_wp2_with (first
  |(refine Cl 201 (Yn (f.b.go HB.out) (f.w.rounds.go HB.out)) ?_;rintro e z ⟨rfl,j⟩;rw[Dv (fun x _=>by unfold vW;rw[Oe];simp)];have q:=Hd (f.c.trans ((HB.out.trans (j.mono HB.out.size)).mono f.c.size));clear j)
  |(refine Cl 198 (Ym f.a f.w.ties) ?_;rintro e T ⟨rfl,hb4⟩;rw[Dv (fun x _=>by unfold abU;simp)];have HB:=Hd hb4;have o:=F3.out.go hb4;refine op1 o ?_;intros;clear hb4 o)
  |(refine Cl 197 (UQ H.a H.b H.c H.w) ?_;rintro e p ⟨A4,c4,A5,c5,rfl,h,K,hb⟩;obtain⟨s,u,g,Y⟩:=fP (w:=p) ((HF.out.go hb).a p [.string r.name,s1.v,s2.v,s3.v,.slice A4 s4.n c4,.slice A5 s5.n c5,s6.v,s7.v,.int .i64 r.best] 28);have f:=h_ (h.go g) (K.go g) Y.bl ((H.a.go hb).go g);have F3:=Hd Y;refine op1 Y ?_;intros;clear h K hb Y g)
  |fail)
 go_ret;exact⟨rfl,q.out⟩
attribute [local go_sem] cK
def Hg(i:Nat)(k:bK):Prop:=k.1≠2\/k.2.2<(i:Int)
def backOk(r:aS)(i:Nat)(x:aJ):Prop:=(∀y,y∈iZ (au x)->y.kind=5->y.n<(i:Int))/\(0<=x.2.2.2.2.2.2.2.2->∃t:Nat,x.2.2.2.2.2.2.2.2=(t:Int)/\t<r.ties.length/\∀k,k∈Jd r t->Hg i k)
theorem Oh{k:bK}{w:World}(hv:aZ w b (.int .i64 (i:Int)))(h:Hg i k):CB 166 #[.agg #[.int .i64 k.1,.string k.2.1,.int .i64 k.2.2],.pointer (some ⟨b,0,none⟩)] (.bool true) w:=by
 obtain⟨d,s,n⟩:=k;simp only[Hg]at h;refine wid ?_;obtain⟨W1,y,F1⟩:=dR ((Fr.nil w).a w [.int .i64 d,.string s,.int .i64 n] 113);have p:=(aZ.block hv (F1.bl.block _ hv.lt)).1;have HB:=Hd F1.bl;refine op1 F1 ?_;intros;clear F1 hv;by_cases e:d=2;·subst e;have j:n<(i:Int):=h.resolve_left (fun g=>g rfl);have f:decide (n<(i:Int))=true:=cw j;refine ent func166 rfl ntmps166 ?_;gi_wp2;go_ret;exact⟨by first|rfl|simp[f,j],HB.out⟩
 have f:(d==2)=false:=cU.2 e;have o:(d !=2)=true:=fo.2 e;refine ent func166 rfl ntmps166 ?_;gi_wp2;go_ret;exact⟨by first|rfl|simp[f,o],HB.out⟩
end
section
open Go.RowKit Go.Shelf
def mkD(D:Nat):Deferred:={ target:=.collected D,args:=#[] }
structure ig(B:Nat)(W:World)(Ds:List Nat):Prop where
 nd:Ds.Nodup
 open_:∀D,D∈Ds->B<=D/\W.heap[D]?=some (.deferred (some []))
theorem ig.nil(B:Nat)(W:World):ig B W []:=⟨List.nodup_nil,fun _ h=>by cases h⟩
theorem ig.lt{B:Nat}{W:World}(h:ig B W Ds)(hD:D∈Ds):D<W.heap.size:=(cS.1 (h.open_ D hD).2).1
theorem ig.go{B:Nat}{W W':World}(h:ig B W Ds)(hb:Below W W W'):ig B W' Ds:=⟨h.nd,fun D hD=>⟨(h.open_ D hD).1,(hb.block D (h.lt hD)).trans (h.open_ D hD).2⟩⟩
theorem ig.add{B:Nat}{W:World}(h:ig B W Ds)(hD:W.heap[D]?=some (.deferred (some [])))(hB:B<=D)(hn:D∉Ds):ig B W (D::Ds):=⟨iX.2 ⟨hn,h.nd⟩,fun E hE=>by
  rcases cB.1 hE with rfl|hE;·exact⟨hB,hD⟩
  exact h.open_ E hE⟩
theorem ig.Jc{B C:Nat}(hC:∀D,D∈Ds->D<C):jC C (fun W=>ig B W Ds):=by intro W W' j h f g;refine⟨h.nd,fun D a=>⟨(h.open_ D a).1,(f.block D (h.lt a) (fun e=>?_)).trans (h.open_ D a).2⟩⟩;have:=(g D e.symm).1;have:=hC D a;omega
theorem Il{F:Fence}{n:Nat}{P:Program}{fn:Func}{tmps:Array Value}{R:Ending->World->Prop}{B:Nat}(S:World->Prop)(hS:∀W D,S W->B<=D->W.heap[D]?=some (.deferred (some []))->S (W.putObj D (.deferred none)))(hR:∀W,S W->LeavesIn F n P fn tmps R [] .returning W):
 ∀(Ds:List Nat) (W:World),S W->ig B W Ds->LeavesInM F n P fn tmps R (Ds.map mkD) .returning W
 | [],W,h,_=>hR W h
 |D::Ds,W,h,hm=>by have hD:=hm.open_ D cd;refine⟨oO,.inl ⟨D,W.putObj D (.deferred none),rfl,jf hD.2,Il S hS hR Ds _ (hS W D h hD.1 hD.2) ⟨(iX.1 hm.nd).2,fun E hE=>?_⟩⟩⟩;have hE2:=hm.open_ E (bz _ hE);refine⟨hE2.1,?_⟩;have hne:E≠D:=fun e=>(iX.1 hm.nd).1 (e▸hE);have hlt:=hm.lt (bz _ hE);exact((grownBy_putObj' W D (.deferred none)).block E hlt (fun e=>hne (by cases e;rfl))).trans hE2.2
def vC(t:Array Value)(slots:List Nat)(us:Nat->Value):Array Value:=slots.foldl (fun t s=>t.setIfInBounds s (us s)) t
theorem Io{us:Nat->Value}{i:Nat}:∀(slots:List Nat) (t:Array Value),t[i]?=some (us i)->(vC t slots us)[i]?=some (us i)
 | [],_,h=>h
 |s::l,t,h=>by
  refine Io l (t.setIfInBounds s (us s)) ?_;have hlt:=(cS.1 h).1;rw[Array.getElem?_setIfInBounds];split;·rename_i e;subst e;simp[hlt]
  exact h
theorem MQ{us:Nat->Value}{i:Nat}:∀(slots:List Nat) (t:Array Value),i∈slots->i<t.size->(vC t slots us)[i]?=some (us i)
 |s::l,t,h,hi=>by
  by_cases e:i=s;·subst e;exact Io l _ (by rw[Array.getElem?_setIfInBounds];simp[hi])
  rcases cB.1 h with h|h;·exact absurd h e
  exact MQ l _ h (by simp[hi])
theorem TM{t:Array Value}{slots:List Nat}(hs:∀i,i∈slots->i<t.size):vC t slots (fun i=>t.getD i undef)=t:=by
 suffices h:∀(l:List Nat) (a:Array Value),(∀i,i∈l->i<t.size)->a=t->vC a l (fun i=>t.getD i undef)=t from h slots t hs rfl
 intro l
 induction l with
 |nil=>exact fun a _ h=>h
 |cons s l ih=>
  rintro a q rfl;refine ih _ (fun i f=>q i (bz _ f)) ?_;have o:=q s cd;apply oB;·simp
  ·intro i g j;rw[Array.getElem_setIfInBounds];split;·rename_i e;subst e;simp[Array.getD,o]
   rfl
theorem Pm{n:Nat}{Q:Exit->Act->World->Prop}{t:Array Value}{ds0:List Deferred}{w:World}{c:Code}(slots:List Nat)(s:Nat)(rel:Value->List Deferred->World->Prop)(mu:Value->Nat)
 (hs:s∈slots) (hsz:∀i,i∈slots->i<t.size) (h0:rel (t.getD s undef) ds0 w)
 (round:∀us ds w,rel (us s) ds w->∀K:Act->World->Prop,(∀t' ds' w',vC t slots (fun i=>t'.getD i undef)=t'->rel (t'.getD s undef) ds' w'->mu (t'.getD s undef)<mu (us s)->K ⟨t',ds'⟩ w')->c.wpIn F n P (Exit.then K Q) ⟨vC t slots us,ds⟩ w):
 (Code.loop c).wpIn F n P Q ⟨t,ds0⟩ w:=by
 refine wpIn_loop (fun a w=>∃us ds,a=⟨vC t slots us,ds⟩/\rel (us s) ds w) (fun a _=>mu (a.tmps.getD s undef)) ⟨_,ds0,by rw[TM hsz],h0⟩ ?_;rintro a w ⟨us,ds,rfl,g⟩;refine round us ds w g _ (fun t' ds' w' e h o=>⟨⟨_,ds',by rw[e],h⟩,?_⟩);have f:(vC t slots us).getD s undef=us s:=by have:=MQ (us:=us) slots t hs (hsz s hs);rw[l6,this];rfl
 show mu (t'.getD s undef)<mu ((vC t slots us).getD s undef);rw[f];exact o
end
