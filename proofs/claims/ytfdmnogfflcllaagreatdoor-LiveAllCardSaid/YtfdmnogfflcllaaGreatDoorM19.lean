/- Lemmas -/
import Derived.Test.YtfdmnogfflcllaaGreatDoorM18
import Derived.Test.YtfdmnogfflcllaaGreatDoorM17
set_option linter.all false
set_option maxRecDepth 100000
set_option maxHeartbeats 0
namespace Go.Proofs.YtfdmnogfflcllaaGreatDoor
open Go.Proofs.Tryz
theorem akI{p:Prop}(h:p:=by
 gi_wp2_with (first|(refine⟨bO,?_⟩))
 go_ret;exact⟨by rw[HX.out];rfl,HB.out⟩):p:=h
theorem Bc{p:Prop}(h:p:=by refine ent func203 ntmps203 ?_;exact akI):p:=h
theorem O6{p:Prop}(h:p:=by show s5.n-(intOf (.int .i64 ((k:Int)+1))).toNat<s5.n-(intOf (.int .i64 (k:Int))).toNat;simp[intOf];omega):p:=h
theorem TI{p:Prop}(h:p:=by exact⟨⟨k+1,pj,by go_num,z,Hd (by rw[<-G.out,X.out,o.out,fm])⟩,by simp[intOf];omega⟩):p:=h
theorem TQ{p:Prop}(h:p:=by
 rw[if_neg e];by_cases V:0<=j;·have:¬j.toNat=i:=pj;simp[this]
 simp[V]):p:=h
theorem TV{p:Prop}(h:p:=by
 rcases cD.1 g with rfl|g;·exact s.v.mM.1
 rw[bz]at g;subst g;exact s.v.mM.2):p:=h
theorem Xa{p:Prop}(h:p:=by
 rcases cD.1 hq with rfl|hq;·exact hM.1
 rw[bz]at hq;subst hq;exact hM.2):p:=h
theorem Xe{p:Prop}(h:p:=by rw[<-G.out,cB (by rw[HL.a];exact bj _),cB (by rw[HL.u];exact bj _),eqF]):p:=h
theorem YA{p:Prop}(h:p:=by simp[stepG,unwind,callDeferred,e,hd,Sem.runT_eq,hi,GStep.bare_after]):p:=h
variable {l:List bK}{l':List aU}{k c m d i n' b nb D:Nat}{M' Ds:List Nat}{A:Option Addr}{rk:Nat→Nat}{t:dA}{P:Program}{v:Value}{F:Fence}{fn:Func}{R:Ending→World→Prop}{args:Array Value}{wr:World}{s1 s2 s3 s4 s5 s6 s7:dK}
section
open Go.RowKit Go.Shelf
mutual
def fE:aU->aU->Bool
 | .mk k s n d l,.mk k' s' n' d' l'=>decide (k=k')&&decide (s=s')&&decide (n=n')&&decide (d=d')&&fQ l l'
def fQ:List aU->List aU->Bool
 | [], []=>true
 |x::l,y::l'=>fE x y&&fQ l l'
 | [],_::_=>false
 |_::_, []=>false
end
theorem KA(x y:aU):fE x y=(decide (x.kind=y.kind)&&decide (x.name=y.name)&&decide (x.n=y.n)&&decide (x.d=y.d)&&fQ x.l y.l):=by cases x;cases y;rw[fE];rfl
theorem yX:∀{l l':List aU},l.length≠l'.length->fQ l l'=false
 | [], [],h=>absurd rfl h
 | [],_::_,_=>by rw[fQ]
 |_::_, [],_=>by rw[fQ]
 |x::l,y::l',h=>by rw[fQ,yX (fun e=>h (by simp[e])),Bool.and_false]
theorem Dc{l:List aU}{x y:aU}(hx:l[k]?=some x)(hy:l'[k]?=some y):fQ (l.drop k) (l'.drop k)=(fE x y&&fQ (l.drop (k+1)) (l'.drop (k+1))):=by obtain⟨e,f⟩:=bu.1 hx;obtain⟨s,g⟩:=bu.1 hy;have H:=cL e;have a:=cL s;rw[H,a,fQ,f,g]
def ZO(x:aU):Prop:=∀{y:aU}{M M':List Nat}{A B:Option Addr}{m c m' c':Nat}{w:World},Sl aU w M A m c x.l->Sl aU w M' B m' c' y.l->Calls prog 203 #[.agg #[x.kind,x.name,x.n,x.d,.slice A m c],.agg #[y.kind,y.name,y.n,y.d,.slice B m' c']] w fun e w'=>e=.returned (.bool (fE x y))/\Below w w w'
theorem Yd{M:List Nat}{B:Option Addr}{n:Nat}{l:List aU}{w:World}(hx:Sl aU w M A n c l)(hy:Sl aU w M' B m d l')(hf:∀x,x∈l->ZO x):
 CB 250 #[.slice A n c,.slice B m d,.func (.func 203) #[] #[]] (.bool (fQ l l')) w:=by
 refine wid ?_;have J:=hx.len;have K:=hy.len;have ag:=hx.small;have eg:=eR (P:=prog) func203 pk rfl;by_cases ad:n=m
 ·subst ad;have H:=Hd2 hx hy;have HL:=Hd2 J K;have IH:=Hd hf;have ab:=Hd (bL w w);have Un:=Hd (show fQ (l.drop 0) (l'.drop 0)=fQ l l' by simp);clear hx hy J K hf;refine ent func250 ntmps250 ?_;gi_wp2;gi_loopw[17] (fun i wr=>∃k:Nat,k<=n/\i=k/\Hid (Below w w wr)/\Hid (fQ (l.drop k) (l'.drop k)=fQ l l')) (fun i _=>n-(intOf i).toNat);case atStart=>exact⟨0,cf _,rfl,ab,Un⟩
  case round=>
   obtain⟨k,hk,rfl,g,I⟩:=hrel;by_cases N:k<n
   ·obtain⟨x,s⟩:=dW l k (by rw[HL.a];exact N);obtain⟨y,Q⟩:=dW l' k (by rw[HL.u];exact N);have aa:=Dc s Q;obtain⟨b1,o1,B1,m1,d1,rfl,⟨p0,p1,p2,p3,p4⟩,-,hs1⟩:=(H.a.go g.out).qQ s;obtain⟨b2,o2,B2,m2,d2,rfl,⟨q0,q1,q2,q3,q4⟩,-,hs2⟩:=(H.u.go g.out).qQ Q;obtain⟨Y,ae,f,S⟩:=fP (w:=wr) ((Fr.nil wr).a wr [x.kind,x.name,x.n,x.d,.slice B1 m1 d1] 66);obtain⟨V2,af,z,T⟩:=fP (w:=Y) ((S).a Y [y.kind,y.name,y.n,y.d,.slice B2 m2 d2] 66);refine op1 T ?_;intros;obtain⟨q,Z⟩:=aC (fE x y);have V:=Hd (IH.out x (bh s) ((hs1.go f).go z) ((hs2.go f).go z));have o:=Hd Z;have X:=Hd aa;have p:=Hd (g.out.trans ((f.trans (z.mono f.size)).mono g.out.size));have r1:=(bq f []).cell po q0;have r2:=(bq f []).cell po q1;have r3:=(bq f []).cell po q2;have r4:=(bq f []).cell po q3;have r5:=(bq f []).cell po q4;clear s Q aa hs1 hs2 Z S T f z;cases q
    ·gi_wp2_with (first
       |(refine Cl 203 V.out ?_;rintro e w2 ⟨rfl,j⟩;rw[o.out];have E:=Hd (p.out.trans (j.mono p.out.size));clear j)
       |fail)
     go_ret;exact⟨by rw[<-I.out,X.out,o.out];rfl,E.out⟩
    gi_wp2_with (first
     |(refine Cl 203 V.out ?_;rintro e w2 ⟨rfl,j⟩;rw[o.out];have E:=Hd (p.out.trans (j.mono p.out.size));clear j)
     |fail)
    exact⟨⟨k+1,pj,by go_num,E,Hd (by rw[<-I.out,X.out,o.out,fm])⟩,by simp[intOf];omega⟩
   ·have ac:k=n:=pj;clear hk N;subst ac;have G:=Hd (show fQ l l'=true by
     rw[<-I.out,cB (by rw[HL.a];exact bj _),cB (by rw[HL.u];exact bj _),fQ])
    gi_wp2;go_ret;exact⟨by rw[G.out];rfl,g.out⟩
 ·have G:=Hd (show fQ l l'=false from yX pj);clear hx hy J K hf;refine ent func250 ntmps250 ?_;gi_wp2;go_ret;exact⟨by rw[G.out];rfl,bL _ _⟩
end
def RI(ts:List dA):Nat->Nat->List bK
 |0,_=> []
 |f+1,i=>match ts[i]? with
  |none=> []
  |some t=>t.2.flatMap fun(k:bK)=>if k.1=5 then RI ts f k.2.2.toNat else [k]
abbrev Jd(r:aS)(i:Nat):List bK:=RI r.ties 16 i
structure T15(r:aS)(rk:Nat->Nat):Prop where
 few:r.ties.length<=5
 keys:∀t,t∈r.ties->t.2.length<=4
 ref:∀i t,r.ties[i]?=some t->∀k,k∈t.2->k.1=5->∃u:Nat,k.2.2=(u:Int)/\u<r.ties.length/\rk u<rk i
 top:∀i,i<r.ties.length->rk i<5
 len:∀i,i<r.ties.length->(Jd r i).length<=32
structure T16(r:aS)(rk:Nat->Nat):Prop where
 few:r.ties.length<=16
 keys:∀t,t∈r.ties->t.2.length<=32
 ref:∀i t,r.ties[i]?=some t->∀k,k∈t.2->k.1=5->∃u:Nat,k.2.2=(u:Int)/\u<r.ties.length/\rk u<rk i
 top:∀i,i<r.ties.length->rk i<16
 len:∀i,i<r.ties.length->(Jd r i).length<=32
theorem T15.to{r:aS}(h:T15 r rk):T16 r rk:=⟨cF h.few pj,fun t ht=>cF (h.keys t ht) pj,h.ref,fun i hi=>bX (h.top i hi) pj,h.len⟩
theorem vV{α β:Type}{f g:α->List β}:∀{l:List α},(∀x,x∈l->f x=g x)->l.flatMap f=l.flatMap g
 | [],_=>rfl
 |x::l,h=>by rw[jb,jb,h x cw,vV (fun y hy=>h y (bE _ hy))]
theorem KF{r:aS}{rk:Nat->Nat}(h:T16 r rk):∀(f g i:Nat),i<r.ties.length->rk i<f->rk i<g->RI r.ties f i=RI r.ties g i
 |0,_,_,_,a,_=>by omega
 |_,0,_,_,_,a=>by omega
 |f+1,g+1,i,hi,a,b=>by
  unfold RI;have ht:r.ties[i]?=some r.ties[i]:=cd hi;rw[ht];apply vV;intro k hk;by_cases h5:k.1=5;·obtain⟨u,e,hu,hlt⟩:=h.ref i _ ht k hk h5;rw[if_pos h5,if_pos h5,e];exact KF h f g u hu pj pj
  rw[if_neg h5,if_neg h5]
theorem acN{r:aS}(h:T16 r rk)(ht:r.ties[i]?=some t):Jd r i=t.2.flatMap fun(k:bK)=>if k.1=5 then Jd r k.2.2.toNat else [k]:=by have u:=(bu.1 ht).1;have V:=h.top i u;show RI r.ties 16 i=_;rw[KF h 16 17 i u V pj];show(match r.ties[i]? with|none=> []|some t=>t.2.flatMap fun(k:bK)=>if k.1=5 then RI r.ties 16 k.2.2.toNat else [k])=_;rw[ht]
theorem KH{r:aS}(h:T15 r rk)(ht:r.ties[i]?=some t):Jd r i=t.2.flatMap fun(k:bK)=>if k.1=5 then Jd r k.2.2.toNat else [k]:=acN h.to ht
def zf(r:aS)(l:List bK):List bK:=l.flatMap fun(k:bK)=>if k.1=5 then Jd r k.2.2.toNat else [k]
theorem KI(r:aS){j:Nat}{k:bK}(h:l[j]?=some k):zf r (l.take (j+1))=zf r (l.take j)++(if k.1=5 then Jd r k.2.2.toNat else [k]):=by unfold zf;rw[dm,h,mL];simp
theorem Vk(r:aS)(l:List bK)(j:Nat):(zf r (l.take j)).length<=(zf r l).length:=by
 have:zf r l=zf r (l.take j)++zf r (l.drop j):=by unfold zf;rw[<-mL,mh]
 rw[this,cJ];omega
section
open Go.RowKit Go.Shelf
theorem MV.drop{vs:List Value}{w:World}{b n:Nat}{S:Int->Option Value}{t e:TypeId}(h:MV vs w b n S)(ht:prog.underlying t=some (.map 3 e)){k:Int}(hk:i64 k)(ty:TypeId):
 ∃w',(Builtin.delete_ #[t,3] ty #[.map (some b),k]).run prog w=.ok (.tuple #[]) w'/\MV vs w' b n (fun j=>if j=k then none else S j)/\w.mapTurned w' b:=by
 obtain⟨D,g,o,s⟩:=h;obtain⟨w',p,T,q⟩:=g.drop XV ht (xP hk) ty;refine⟨w',p,⟨_,T,o.del _,fun j=>?_⟩,q⟩;by_cases e:j=k;·subst e;simp only[mf];exact⟨Go.Maps.has_del_same,fun z=>Go.Maps.atKey_del_same z⟩
 ·have f:sQ j≠sQ k:=fun h=>e (by injection h);have a:=s j;simp only[if_neg e];revert a;rw[Go.Maps.has_del_other f]
  cases S j with
  |none=>exact fun a=>⟨a.1,fun z=>(Go.Maps.atKey_del_other f z).trans (a.2 z)⟩
  |some u=>exact fun a=>⟨a.1,a.2.choose,a.2.choose_spec.1,fun z=>(Go.Maps.atKey_del_other f z).trans (a.2.choose_spec.2 z)⟩
def qG(O:Nat->Bool)(k:Int):Option Value:=if 0<=k/\O k.toNat=true then some (.bool true)else none
theorem Vm{O:Nat->Bool}:qG O (i:Int)=if O i=true then some (.bool true)else none:=by unfold qG;simp
theorem RJ(O:Nat->Bool)(i:Nat):(fun j=>if j=(i:Int)then some (.bool true)else qG O j)=qG (fun j=>O j||decide (j=i)):=by
 funext j;unfold qG;by_cases e:j=(i:Int);·subst e;simp
 exact TQ
theorem RN(O:Nat->Bool)(i:Nat)(h:O i=false):(fun j=>if j=(i:Int)then none else qG (fun j=>O j||decide (j=i)) j)=qG O:=by
 funext j;unfold qG;by_cases e:j=(i:Int);·subst e;simp[h]
 exact TQ
def zh(W:World)(M:List Nat)(L:Nat)(r:aS)(i:Nat):Prop:=W.frozen? ⟨L,i,none⟩=false/\∃A m c,W.cell? ⟨L,i,none⟩=some (.slice A m c)/\((m=0/\c=0)\/Sl bK W M A m c (Jd r i))
structure Ai(w W:World)(B rb ob mb cb gb lb L xb:Nat)(M:List Nat)(r:aS)(C:List Value)(A4:Option Addr)(n4 c4 n:Nat)(O:Nat->Bool):Prop where
 bl:Below w w W
 rc:W.cell? ⟨rb,4,none⟩=some (.slice A4 n4 c4)
 vo:aZ W ob (.map (some mb))
 vc:aZ W cb false
 vg:aZ W gb false
 vl:aZ W lb (.slice (some ⟨L,0,none⟩) n4 n4)
 vx:aZ W xb (.func (.func 217) #[] #[.pointer (some ⟨ob,0,none⟩),.pointer (some ⟨cb,0,none⟩),.pointer (some ⟨lb,0,none⟩),.pointer (some ⟨rb,0,none⟩),.pointer (some ⟨xb,0,none⟩),.pointer (some ⟨gb,0,none⟩)])
 mv:MV [false,true] W mb n (qG O)
 ts:Sl dA W M A4 n4 c4 r.ties
 rows:∀i,i<n4->zh W M L r i
 ge:w.heap.size<=rb/\w.heap.size<=ob/\w.heap.size<=mb/\w.heap.size<=cb/\w.heap.size<=gb/\w.heap.size<=lb/\w.heap.size<=L/\w.heap.size<=xb
 ne:rb≠L/\ob≠L/\mb≠L/\cb≠L/\gb≠L/\lb≠L/\xb≠L
 nm:rb≠mb/\ob≠mb/\cb≠mb/\gb≠mb/\lb≠mb/\xb≠mb
 lt:rb<B/\ob<B/\mb<B/\cb<B/\gb<B/\lb<B/\L<B/\xb<B
 BW:B<=W.heap.size
 wB:w.heap.size<=B
 mM:L∈M/\mb∈M
 hM:∀q,q∈M->q<W.heap.size
section
variable {w W W':World}{B rb ob mb cb gb lb L xb:Nat}{M:List Nat}{r:aS}{C:List Value}{A4:Option Addr}{n4 c4 n:Nat}{O:Nat→Bool}
theorem zh.keep{i:Nat}(h:zh W M L r i)(k:Keeps M W W')(hl:W'.heap[L]?=W.heap[L]?):zh W' M L r i:=by obtain⟨f,A,m,c,g,s⟩:=h;obtain⟨a,e⟩:=jB ⟨g,f⟩ hl;exact⟨e,A,m,c,a,s.imp id (fun h=>h.keep k)⟩
theorem Ai.kept{O':Nat->Bool}(h:Ai w W B rb ob mb cb gb lb L xb M r C A4 n4 c4 n O)(k:Keeps [mb] W W')(hb:Below w W W')(hm:MV [false,true] W' mb n' (qG O')):Ai w W' B rb ob mb cb gb lb L xb M r C A4 n4 c4 n' O':=by
 have kb:∀{b:Nat},b<W.heap.size->b≠mb->W'.heap[b]?=W.heap[b]?:=fun j o=>k.block _ j (by simpa using o);have f:Keeps M W W':=k.mono (fun q a=>by rw[bz]at a;subst a;exact h.mM.2);have g:L<W.heap.size:=h.hM _ h.mM.1;have p:W'.cell? ⟨rb,4,none⟩=some (.slice A4 n4 c4):=by rw[eZ (w:=W) (kb (bw W _ h.rc) h.nm.1)];exact h.rc
 exact{ bl:=h.bl.trans hb,rc:=p,vo:=h.vo.block (kb h.vo.lt h.nm.2.1),vc:=h.vc.block (kb h.vc.lt h.nm.2.2.1),vg:=h.vg.block (kb h.vg.lt h.nm.2.2.2.1),vl:=h.vl.block (kb h.vl.lt h.nm.2.2.2.2.1),vx:=h.vx.block (kb h.vx.lt h.nm.2.2.2.2.2),mv:=hm,ts:=h.ts.keep f,rows:=fun i u=>(h.rows i u).keep f (kb g (fun e=>h.ne.2.2.1 e.symm)),ge:=h.ge,ne:=h.ne,nm:=h.nm,lt:=h.lt,BW:=cF h.BW k.size,wB:=h.wB,mM:=h.mM,hM:=fun q a=>bX (h.hM q a) k.size }
theorem Ai.go(h:Ai w W B rb ob mb cb gb lb L xb M r C A4 n4 c4 n O)(hb:Below W W W'):Ai w W' B rb ob mb cb gb lb L xb M r C A4 n4 c4 n O:=h.kept (bq hb _) (hb.mono h.bl.size) (h.mv.go hb)
theorem Ai.row(h:Ai w W B rb ob mb cb gb lb L xb M r C A4 n4 c4 n O)(hs:Sl bK W M A m c (Jd r i))(hw:W.setCell ⟨L,i,none⟩ (.slice A m c)=W')(hi:i<n4):Ai w W' B rb ob mb cb gb lb L xb M r C A4 n4 c4 n O:=by
 subst hw;have k:Keeps [L] W (W.setCell ⟨L,i,none⟩ (.slice A m c)):=(cG _ _).setCell (p:=⟨L,i,none⟩) (.inl po) _;have hb:Below w W (W.setCell ⟨L,i,none⟩ (.slice A m c)):=(bL _ W).setCell (p:=⟨L,i,none⟩) h.ge.2.2.2.2.2.2.1 _;have kb:∀{b:Nat},b<W.heap.size->b≠L->(W.setCell ⟨L,i,none⟩ (.slice A m c)).heap[b]?=W.heap[b]?:=fun z E=>k.block _ z (by simpa using E);have f:Keeps M W (W.setCell ⟨L,i,none⟩ (.slice A m c)):=k.mono (fun q a=>by rw[bz]at a;subst a;exact h.mM.1);refine{ bl:=h.bl.trans hb,rc:=?_,vo:=h.vo.block (kb h.vo.lt h.ne.2.1),vc:=h.vc.block (kb h.vc.lt h.ne.2.2.2.1),vg:=h.vg.block (kb h.vg.lt h.ne.2.2.2.2.1),vl:=h.vl.block (kb h.vl.lt h.ne.2.2.2.2.2.1),vx:=h.vx.block (kb h.vx.lt h.ne.2.2.2.2.2.2),mv:=h.mv.block (kb h.mv.lt h.ne.2.2.1),ts:=h.ts.keep f,rows:=fun j y=>?_,ge:=h.ge,ne:=h.ne,nm:=h.nm,lt:=h.lt,BW:=cF h.BW k.size,wB:=h.wB,mM:=h.mM,hM:=fun q a=>bX (h.hM q a) k.size };·rw[eZ (w:=W) (kb (bw W _ h.rc) h.ne.1)];exact h.rc
 obtain⟨g,s,G,u,o,x⟩:=h.rows j y;by_cases e:j=i;·subst e;exact⟨by simp[go_sem,g],A,m,c,cZ o,.inr (hs.keep f)⟩
 exact⟨by simp[go_sem,g],s,G,u,by simp[go_sem,e,fun e':i=j=>e e'.symm,o],x.imp id (fun h=>h.keep f)⟩
theorem Ai.far(h:Ai w W B rb ob mb cb gb lb L xb M r C A4 n4 c4 n O)(k:Keeps M W W')(hb:Below B W W'):Ai w W' B rb ob mb cb gb lb L xb M r C A4 n4 c4 n O:=by
 have e:W'.cell? ⟨rb,4,none⟩=some (.slice A4 n4 c4):=by rw[eZ (w:=W) (hb.block _ h.lt.1)];exact h.rc
 exact{ bl:=h.bl.trans (hb.mono h.wB),rc:=e,vo:=h.vo.block (hb.block _ h.lt.2.1),vc:=h.vc.block (hb.block _ h.lt.2.2.2.1),vg:=h.vg.block (hb.block _ h.lt.2.2.2.2.1),vl:=h.vl.block (hb.block _ h.lt.2.2.2.2.2.1),vx:=h.vx.block (hb.block _ h.lt.2.2.2.2.2.2.2),mv:=h.mv.block (hb.block _ h.lt.2.2.1),ts:=h.ts.keep k,rows:=fun i u=>(h.rows i u).keep k (hb.block _ h.lt.2.2.2.2.2.2.1),ge:=h.ge,ne:=h.ne,nm:=h.nm,lt:=h.lt,BW:=cF h.BW k.size,wB:=h.wB,mM:=h.mM,hM:=fun q a=>bX (h.hM q a) k.size }
theorem zh.lessM(h:zh W M L r i)(hs:∀q,q∈M'->q∈M):zh W M' L r i:=by obtain⟨a,A,m,c,e,s⟩:=h;exact⟨a,A,m,c,e,s.imp id (fun h=>h.less hs)⟩
theorem Ai.lessM{M':List Nat}(h:Ai w W B rb ob mb cb gb lb L xb M r C A4 n4 c4 n O)(hs:∀q,q∈M'->q∈M)(h1:L∈M'/\mb∈M'):Ai w W B rb ob mb cb gb lb L xb M' r C A4 n4 c4 n O:={ h with ts:=h.ts.less hs,rows:=fun i hi=>(h.rows i hi).lessM hs,mM:=h1,hM:=fun q hq=>h.hM q (hs q hq) }
theorem Ai.ai2{g:Nat}(h:Ai w W B rb ob mb cb gb lb L xb M r C A4 n4 c4 n O)(hg:W.heap.size<=g)(k:Keeps M W W')(hb:Below B W W')(hl:g<W'.heap.size):Ai w W' B rb ob mb cb gb lb L xb (g::M) r C A4 n4 c4 n O:=by
 have e:=h.far k hb;have f:Keeps (g::M) W W':=k.mono (fun q a=>bE _ a);refine{ e with ts:=(h.ts.more hg).keep f,rows:=fun i u=>?_,mM:=⟨bE _ h.mM.1,bE _ h.mM.2⟩,hM:=fun q a=>?_ };·obtain⟨o,A,m,c,p,s⟩:=h.rows i u;obtain⟨H,j⟩:=jB ⟨p,o⟩ (hb.block _ h.lt.2.2.2.2.2.2.1);exact⟨j,A,m,c,H,s.imp id (fun h=>(h.more hg).keep f)⟩
 rcases cD.1 a with rfl|a;·exact hl
 exact e.hM q a
end
theorem Je{fr:Frame}{cs:List Frame}{w w':World}{d:Deferred}{ds:List Deferred}{b:Builtin}{at_:Array TypeId}{ty:TypeId}{co:Array Bool}(hm:fr.mode≠.run)(hd:fr.defers=d::ds)(ht:d.target=.builtin b at_ ty co)
 (hi:(invoke d.target d.args).run P w=.ok (.value v) w'):step P (lone fr cs w)=.next (lone { fr with defers:=ds } cs w'):=by
 obtain⟨t,a⟩:=d;simp only at ht hi;subst ht;refine step_lone_go ?_
 cases e:fr.mode with
 |run=>exact absurd e hm
 |returning=>exact YA
 |panicking chain=>exact YA
def zi(P:Program)(fn:Func)(R:Ending->World->Prop):Exit->Act->World->Prop
 | .normal,a,w| .ret,a,w=>(a.defers= []/\∃v,(results fn a.tmps).run P w=.ok v w/\R (.returned v) w)\/∃d b at_ ty co u w1 v,a.defers= [d]/\d.target=.builtin b at_ ty co/\(invoke d.target d.args).run P w=.ok (.value u) w1/\(results fn a.tmps).run P w1=.ok v w1/\R (.returned v) w1
 |_,_,_=>False
theorem Qm{n:Nat}{a:Act}{w:World}(h:zi P fn R .ret a w)(fr:Frame)(cs:List Frame)(hu:fr.mode=.returning)(hd:fr.defers=a.defers)(ht:fr.tmps=a.tmps)(hf:P.funcs[fr.fn]?=some fn)(hk:fr.kind=.normal)(hF:F.fn fr.fn)
 (hroom:F.room (cs.length+1+n)):∃e w' fr',R e w'/\ComesIn (Machine.fenced P F) P (lone fr cs w) (lone fr' cs w') e/\fr'.fn=fr.fn/\fr'.leaving P w' e:=by
 rcases h with⟨V,v,f,S⟩|⟨d,b,at_,N,K,u,J,v,V,p,z,f,S⟩;·exact leaves_stepsIn (tmps:=a.tmps) [] .returning w fr cs hu (hd.trans V) ht hf hk hF hroom ⟨v,f,S⟩
 ·have j:=hd.trans V;have s:=Je (cs:=cs) (by rw[hu];simp) j p z;have H:(lone fr cs w).fenced P F:=fenced_out hF hroom (by rw[hu];simp) j (fun g o=>by rw[p]at o;simp[Target.leads]at o);obtain⟨q,I,fr',x,G,y,E⟩:=leaves_stepsIn (tmps:=a.tmps) (R:=R) (fn:=fn) [] .returning J { fr with defers:= [] } cs hu rfl ht hf hk hF hroom ⟨v,f,S⟩;exact⟨q,I,fr',x,ComesIn.of_steps (.one H s) G,y,E⟩
theorem Aj{n:Nat}{f:FuncId}{c:Code}{w:World}(hf:P.funcs[f]?=some fn)(hb:fn.body=some c)(hF:F.fn f)
 (h:c.wpIn F n P (zi P fn R) { tmps:=args++Array.replicate (fn.ntmps-args.size) undef,defers:= [] } w) (hro:F.round=none:=by rfl):CallsIn F n P f args w R:=by
 refine⟨hF,fun cs g=>?_⟩;let b:Frame:={ (default:Frame)with fn:=f,kind:=.normal,roundOf:=none };have y:Frame.enter P f args .normal=b.atR { tmps:=args++Array.replicate (fn.ntmps-args.size) undef,defers:= [] } [.code c]:=by simp[Frame.enter,Frame.atR,hf,hb,b]
 obtain⟨e,j,w',a,q⟩:=h b [] cs hro.symm hF g;rw[<-y]at q
 cases e with
 |normal=>obtain⟨o,x,p,S,hs,s,u⟩:=Qm (F:=F) (n:=n) a { b.atR j []with mode:=.returning } cs rfl rfl rfl hf rfl hF g;exact⟨o,x,p,S,ComesIn.of_steps (StepsIn.trans q (.one (fenced_calm (fr:=b.atR j []) hF g rfl) (stepR_end rfl))) hs,s,u⟩
 |ret=>obtain⟨E,z⟩:=q.1 rfl;obtain⟨o,x,p,S,hs,s,u⟩:=Qm (F:=F) (n:=n) a { b.atR j E with mode:=.returning } cs rfl rfl rfl hf rfl hF g;exact⟨o,x,p,S,ComesIn.of_steps z hs,s,u⟩
 |panic chain=>exact a.elim
 |exit id=>exact a.elim
 |goto l=>exact a.elim
 |outgrown=>exact a.elim
theorem ahR{n:Nat}{f:Nat}{c:Code}{a':Array Value}{w:World}(hf:P.funcs[f]?=some fn)(hb:fn.body=some c)(hn:fn.ntmps=k)
 (h:c.wpIn F n P (zi P fn R) ⟨a', []⟩ w) (hF:F.fn f:=by exact trivial) (ha:args++Array.replicate (k-args.size) undef=a':=by(simp only[lO,eh,gD,Nat.reduceAdd,Nat.reduceSub,gR,gS,i_,fp,df,d_];(first|done|exact rfl))) (hro:F.round=none:=by exact rfl):CallsIn F n P f args w R:=
 Aj hf hb hF (by rw[hn,ha];exact h) hro
attribute [local go_sem] cX
section
variable {w W W':World}{B rb ob mb cb gb lb L xb:Nat}{M:List Nat}{r:aS}{C:List Value}{A4:Option Addr}{n4 c4 n:Nat}{O:Nat→Bool}
structure Ue(w W wr:World)(B rb ob mb cb gb lb L xb:Nat)(M:List Nat)(r:aS)(C:List Value)(A4:Option Addr)(n4 c4 nb:Nat)(O:Nat->Bool)(v:Value)(l:List bK):Prop where
 x:∃n,n<=nb/\Ai w wr B rb ob mb cb gb lb L xb (bP v++M) r C A4 n4 c4 n O
 own:bD bK 113 wr M W.heap.size v l.length l
 kp:Keeps [L,mb] W wr
 BW:B<=W.heap.size
 hM:∀q,q∈M->q<W.heap.size
theorem Ue.app{ys:List bK}(h:Ue w W wr B rb ob mb cb gb lb L xb M r C A4 n4 c4 nb O v l)(hy:Sl bK wr (bP v++M) A m c ys)(hn:l.length+m<=100000):
 ∃v' w',(Builtin.append_ #[110,110] 110 #[v,.slice A m c]).run prog wr=.ok v' w'/\Ue w W w' B rb ob mb cb gb lb L xb M r C A4 n4 c4 nb O v' (l++ys):=by
 obtain⟨i,z,y,E,G,H,I⟩:=aaM;obtain⟨n,s,x⟩:=h.x;obtain⟨v',w',J,T,j,K⟩:=h.own.uy (t:=110) (ty:=110) h.kp.size underlying110 y E G H hy (by have:=fS hn I;omega) pj;have p:(l++ys).length=l.length+m:=by rw[cJ,hy.len]
 have o:Keeps (bP v++M) wr w':=(cG _ wr).grown j (fun k g=>.inl (di _ (bJ.2 g)));have b1:Below B wr w':=(bL B wr).grown j x.BW (fun k g=>cF h.BW (h.own.lt g).1);refine⟨v',w',J,⟨n,s,?_⟩,by rw[p];exact T,h.kp.grown j (fun k g=>.inr (h.own.lt g).1),h.BW,h.hM⟩;rcases K with e|e
 ·have:bP v'=bP v:=by unfold bP;rw[e]
  rw[this];exact x.far o b1
 ·have u:bP v'= [wr.heap.size]:=by unfold bP;rw[e];rfl
  rw[u];refine(x.ai2 pD o b1 (T.lt e).2).lessM (fun q f=>?_) ⟨cP _ ?_,cP _ ?_⟩
  ·rcases cK.1 f with f|f;·rw[bz]at f;subst f;exact cw
   exact bE _ (cP _ f)
  ·have a:=x.mM.1;rcases cK.1 a with a|a;·have:=(h.own.lt (bJ.1 a)).1;have:=x.lt.2.2.2.2.2.2.1;have:=h.BW;omega
   exact a
  have a:=x.mM.2;rcases cK.1 a with a|a;·have:=(h.own.lt (bJ.1 a)).1;have:=x.lt.2.2.1;have:=h.BW;omega
  exact a
theorem Ue.go{wr wz:World}{nb:Nat}{v:Value}{l:List bK}(h:Ue w W wr B rb ob mb cb gb lb L xb M r C A4 n4 c4 nb O v l)(hb:Below wr wr wz):Ue w W wz B rb ob mb cb gb lb L xb M r C A4 n4 c4 nb O v l:=by obtain⟨n,a,x⟩:=h.x;exact⟨⟨n,a,x.go hb⟩,h.own.go hb,h.kp.trans (bq hb _),h.BW,h.hM⟩
theorem Ue.call{wz:World}{nb':Nat}(h:Ue w W wr B rb ob mb cb gb lb L xb M r C A4 n4 c4 nb O v l)(hM:L∈M/\mb∈M)(x:Ai w wz B rb ob mb cb gb lb L xb (bP v++M) r C A4 n4 c4 n' O)(hn:n'<=nb')(k:Keeps [L,mb] wr wz):Ue w W wz B rb ob mb cb gb lb L xb M r C A4 n4 c4 nb' O v l:=⟨⟨n',hn,x⟩,h.own.apart k (fun q hq=>by
   exact Xa) (fun q hq e=>by
   have h1:=(h.own.lt e).1;have h2:=h.hM q (by exact Xa);omega),h.kp.trans k,h.BW,h.hM⟩
end
theorem Yi{w:World}{M:List Nat}{k:bK}(h0:w.cell? ⟨b,0,none⟩=some (.int .i64 k.1))(h1:w.cell? ⟨b,1,none⟩=some (.string k.2.1))(h2:w.cell? ⟨b,2,none⟩=some (.int .i64 k.2.2))(i1:i64 k.1)(i2:i64 k.2.2)(hb:b∉M):Sl bK w M (some ⟨b,0,none⟩) 1 1 [k]:=by
 refine⟨rfl,bj _,by simp[jG],pj,.inr ⟨b,0,rfl,fun j x hx=>?_⟩⟩
 match j,hx with
 |0,hx=>
  cases hx;refine⟨[k.1,k.2.1,k.2.2],⟨[_],_,rfl,⟨rfl,i1⟩, [_],_,rfl,rfl,⟨rfl,i2⟩⟩,hb,fun q u p=>?_⟩
  match q,p with
  |0,p=>cases p;exact h0
  |1,p=>cases p;exact h1
  |2,p=>cases p;exact h2
def XpC(r:aS)(rk:Nat->Nat)(i:Nat):Prop:=∀{w W:World}{B rb ob mb cb gb lb L xb:Nat}{M:List Nat}{C:List Value}{A4:Option Addr}{n4 c4 n:Nat}{O:Nat->Bool},Ai w W B rb ob mb cb gb lb L xb M r C A4 n4 c4 n O->(∀u,O u=true->rk i<rk u)->i<n4->n+5^(rk i+1)<=900000->Calls prog 217 #[.int .i64 (i:Int),.pointer (some ⟨ob,0,none⟩),.pointer (some ⟨cb,0,none⟩),.pointer (some ⟨lb,0,none⟩),.pointer (some ⟨rb,0,none⟩),.pointer (some ⟨xb,0,none⟩),.pointer (some ⟨gb,0,none⟩)] W fun e W'=>∃A m c n',e=.returned (.slice A m c)/\Sl bK W' M A m c (Jd r i)/\Ai w W' B rb ob mb cb gb lb L xb M r C A4 n4 c4 n' O/\n'<=n+5^(rk i+1)/\Keeps [L,mb] W W'
theorem Ob{r:aS}(T:T15 r rk):∀(i:Nat),(∀u,u<r.ties.length->rk u<rk i->XpC r rk u)->XpC r rk i:=by
 intro i ih w W B rb ob mb cb gb lb L xb M C A4 n4 c4 n O X hO hi hn;refine wid ?_;have aM:=X.ts.len;have aK:0<5^rk i:=Nat.pos_of_ne_zero po;have ac:=hn;rw[lR]at ac;have aP:n4<=5:=by have:=T.few;omega
 have an:O i=false:=by
  cases e:O i with
  |false=>rfl
  |true=>have:=hO i e;omega
 have hl:=X.mv.look (k:=(i:Int)) underlying251 (show(zeroValue 4).run prog W=.ok false W by kernel_rfl) po pA;rw[Vm,an]at hl;simp only[gm,oB,Option.getD_none]at hl;obtain⟨f0,A,m,c,aR,hm⟩:=X.rows i hi;have o1:=X.vo.1;have l1:=X.vl.1;have o2:=X.vc.1;by_cases au:m=0
 ·subst au;obtain⟨t,ae⟩:=dW r.ties i pj;have ax:=KH T ae;have aq:=T.len i pj;have aF:=T.keys t (bh ae);obtain⟨W1,r1,al,ak⟩:=X.mv.store (k:=(i:Int)) (v:=.bool true) underlying251 pA po pj;rw[RJ]at al;have k1:Keeps [mb] W W1:=(cG _ W).grown ak.grown (fun q g=>.inl (by cases g;exact cw));have E:=X.kept k1 ((bL _ W).grown ak.grown X.bl.size (fun q g=>by cases g;exact X.ge.2.2.1)) al;obtain⟨b,o,D,md,dd,rfl,⟨t0,t1⟩,hsk⟩:=E.ts.n_ ae;have aN:=hsk.len;have aT:=E.rc;have o3:=E.vo.1;have L0:Ue w W1 W1 B rb ob mb cb gb lb L xb M r C (some ⟨b,o,none⟩) n4 c4 (n+1) (fun j=>O j||decide (j=i)) (.slice none 0 0) []:=⟨⟨n+1,bj _,E⟩,bD.nil _ _ _,cG _ _,E.BW,E.hM⟩;have H:=Hd7 L0 ae hsk ax aq k1 aF;have s:=fB hO an X;clear L0 hsk ax aq k1 X al ak hm E hO hn;refine ahR func217 rfl ntmps217 ?_;gi_wp2;gi_loopw[9,38] (fun v9 i9 wr=>∃j:Nat,j<=md/\i9=j/\Hid (Ue w W1 wr B rb ob mb cb gb lb L xb M r C (some ⟨b,o,none⟩) n4 c4 (n+1+j*5^rk i) (fun j=>O j||decide (j=i)) v9 (zf r (t.2.take j)))) (fun _ i9 _=>md-(intOf i9).toNat);case atStart=>exact⟨0,cf _,rfl,Hd (by simpa[zf]using H.a)⟩
  case round=>
   obtain⟨j,hj,rfl,Q⟩:=hrel;by_cases aE:j<md
   ·obtain⟨k,hk⟩:=dW t.2 j pj;have ag:=H.c.keep (Q.out.kp.mono (M':=M) (fun q g=>by
     exact TV))
    obtain⟨b2,o2,es,rfl,ah,ab⟩:=ag.get hk;obtain⟨rfl,aH,aJ⟩:=rd_key ah;have h0:wr.cell? ⟨b2,o2+j*3,none⟩=some (.int .i64 k.1):=ab.2 0 _ rfl;have h1:wr.cell? ⟨b2,o2+j*3+1,none⟩=some (.string k.2.1):=ab.2 1 _ rfl;have h2:wr.cell? ⟨b2,o2+j*3+2,none⟩=some (.int .i64 k.2.2):=ab.2 2 _ rfl;obtain⟨V1,ao,dD,S⟩:=fP (w:=wr) ((Fr.nil wr).a wr [k.1,k.2.1,k.2.2] 113);have N:=Q.out.go dD;have G:=KI r hk;have aa:=Vk r t.2 (j+1);have aj:Jd r i=zf r t.2:=H.d;rw[<-aj]at aa;by_cases Y:k.1=5
    ·obtain⟨u,hu,ay,am⟩:=T.ref i t H.b k (bh hk) Y;rw[if_pos Y,hu,fv]at G;obtain⟨nn,ad,y⟩:=N.x;have aG:5^(rk u+1)<=5^rk i:=iH pj pj;have ap:(j+1)*5^rk i<=4*5^rk i:=dy _ (by have:=H.z;omega);rw[fY,fh]at ap;have hc:=ih u ay am y (fun q g=>by
      simp only[ie,ef]at g;rcases g with g|rfl;·have:=s.a q g;omega
      exact am) pj pj
     have V:=h_ hc N (show nn+5^(rk u+1)<=n+1+(j+1)*5^rk i by rw[fY,fh];omega) G;have vx:=y.vx.1;have ar:=T.len u ay;have HU:=Hd2 ar (show(zf r (t.2.take (j+1))).length<=32 by have:=H.e;omega);rw[Y]at ao;rw[hu]at ao;have g0:=S.aQ 0 0;have g2:=S.aQ 0 2;rw[Y]at g0 h0;rw[hu]at g2 h2;clear hc N y G aG ap ad hk ah ab ag aa aj S dD ar
     gi_wp2_with (first
      |(gi_at_builtin;refine c_ rfl fun K Z=>?_;refine aI _ _ _ rfl rfl rfl HR.out (Z _ _ ?_);clear Z K)
      |(refine Cl 217 V.a ?_;rintro e w4 ⟨A5,m5,c5,n5,rfl,hs5,J,ac,k5⟩;have XD:=hs5.len;obtain⟨v6,w6,I,L6⟩:=(V.b.call (nb':=n+1+(j+1)*5^rk i) s.v.mM J (cF ac V.c) k5).app hs5 (by
         have h1:=HU.a;have h2:=HU.u;have h3:=V.w;rw[h3,cJ]at h2;omega)
        rw[<-V.w]at L6;have HR:=Hd I;have af:=Hd L6;clear I L6 hs5 J ac k5)
      |fail)
     exact⟨⟨j+1,pj,by go_num,af⟩,by simp[intOf];omega⟩
    rw[if_neg Y]at G;obtain⟨V2,aL,oL,G2⟩:=fP (w:=V1) ((Fr.nil V1).a V1 [k.1,k.2.1,k.2.2] 113);have L2:=N.go oL;obtain⟨nn,ad,y⟩:=N.x;obtain⟨v6,w6,I,L6⟩:=L2.app (Yi (k:=k) (G2.aQ 0 0) (G2.aQ 0 1) (G2.aQ 0 2) aH aJ (fun g=>by have:=y.hM _ g;omega)) (by have:=H.e;rw[G,cJ]at aa;simp at aa;omega);rw[<-G]at L6;obtain⟨nk,av,xk⟩:=L6.x;have af:=Hd ({ L6 with x:=⟨nk,cF av (by rw[fY,fh];omega),xk⟩ }:Ue w W1 w6 B rb ob mb cb gb lb L xb M r C (some ⟨b,o,none⟩) n4 c4 (n+1+(j+1)*5^rk i) (fun j=>O j||decide (j=i)) v6 (zf r (t.2.take (j+1))));have HR:=Hd I;refine op1 S ?_;intros;clear N L2 L6 y xk av ad I G aa aj hk ah ab ag S G2 dD oL
    gi_wp2_with (first
     |(gi_at_builtin;refine c_ rfl fun K Z=>?_;refine aI _ _ _ rfl rfl rfl HR.out (Z _ _ ?_);clear Z K)
     |fail)
    exact⟨⟨j+1,pj,by go_num,af⟩,by simp[intOf];omega⟩
   ·have ej:j=md:=pj;clear hj aE;subst ej;obtain⟨nn,ad,y⟩:=Q.out.x;have aD:zf r (t.2.take j)=Jd r i:=by
     rw[H.d,bR pj];rfl
    have ai:=Q.out.own;rw[aD]at ai;obtain⟨Av,cv,rfl⟩:=ai.shape;obtain⟨_,_,e9,aw⟩:=ai.sl (by have:=H.e;omega) (fun q g=>Q.out.hM q g);cases e9;have l9:¬((32:Int)<((Jd r i).length:Nat)):=by have:=H.e;omega
    obtain⟨W5,CZ⟩:=aC (wr.setCell ⟨L,i,none⟩ (.slice Av (Jd r i).length cv));have x2:=y.lessM (M':=M) (fun q g=>cP _ g) s.v.mM;have J:=x2.row aw CZ hi;obtain⟨W6,I,aA,az⟩:=J.mv.drop (k:=(i:Int)) underlying251 pA 0;rw[RN O i s.b]at aA;have vl:=x2.vl.1;have gv:=x2.vg.1;obtain⟨f9,A9,m9,c9,q9,-⟩:=x2.rows i hi;gi_wp2;have k5:Keeps [L,mb] wr W5:=by rw[<-CZ];exact(cG _ _).setCell (p:=⟨L,i,none⟩) (.inl po) _
    have k6:Keeps [mb] W5 W6:=(cG _ W5).grown az.grown (fun q g=>.inl (by cases g;exact cw));have k7:Keeps [L,mb] wr W6:=k5.trans (k6.mono (fun q g=>bE _ g));have aB:∀q,q∈ [L,mb]->q∈M:=fun q g=>by exact TV
    have x6:=J.kept k6 ((bL _ W5).grown az.grown J.bl.size (fun q g=>by cases g;exact J.ge.2.2.1)) aA;have h4:=H.z;have hb4:j*5^rk i<=4*5^rk i:=dy _ pj;exact .inr ⟨_,.delete,_,_,_,.tuple #[],W6,.slice Av (Jd r i).length cv,rfl,rfl,by simp[invoke,builtin,I,Result.andThen],by simp[results,go_sem],Av,_,cv,rfl,aw.keep (k7.mono aB),nn,x6,by rw[lR];omega,((H.f.mono (fun q g=>bE _ g)).trans Q.out.kp).trans k7⟩
 have HX:=Hd2 X (hm.resolve_left (fun h=>au h.1));have aO:0<m:=pj;clear hm;refine ahR func217 rfl ntmps217 ?_;gi_wp2;exact .inl ⟨rfl,.slice A m c,by simp[results,go_sem],A,m,c,n,rfl,HX.u,HX.a,Nat.le_add_right _ _,cG _ _⟩
theorem Dt{r:aS}{rk:Nat->Nat}(T:T15 r rk):∀(N i:Nat),rk i<N->XpC r rk i
 |0,_,h=>by omega
 |N+1,i,h=>Ob T i (fun u _ hu=>Dt T N u pj)
theorem Oc:(prog.info? 110).map (fun i=>(i.zero,i.size,i.bytes))=some (some (.slice none 0 0),1,24):=pk
theorem RP(N:Nat):madeCells (Value.slice none 0 0).cells (N*1)=(Array.replicate N (Value.slice none 0 0)):=by
 apply ph;·simp[madeCells]
 intro i a f;exact Np
theorem Yj(N:Nat)(hN:N<=1000000)(w:World):(Instr.makeSlice 161 (.int .i64 (N:Int)) (.int .i64 (N:Int))).run prog w=.ok (.slice (some ⟨w,0,none⟩) N N) (w.alloc (.cells (Array.replicate N (Value.slice none 0 0)) 110)):=by obtain⟨g,u,a,e,f⟩:=lB Oc;have:=run_make (P:=prog) w 161 110 g (.slice none 0 0) underlying161 u a .i64 .i64 (N:Int) (N:Int) pj (Int.le_refl _) (by rw[f];omega) pj;rw[this,e];simp only[fv,RP]
theorem Yk(w:World):(Instr.makeMap 251 none).run prog w=.ok (.map (some w.heap.size)) (w.alloc (.map #[] 0)):=by rfl
def Vo(W:World)(M:List Nat)(L n:Nat)(r:aS):Prop:=∀i,i<n->zh W M L r i
theorem Yl{w:World}(v:Value)(t:TypeId)(hb:b=w.heap.size):aZ (w.alloc (.cells #[v] t)) b v:=by exact EN
theorem Du{M:List Nat}{r:aS}{w:World}(hr:dG w M r s1 s2 s3 s4 s5 s6 s7)(T:T15 r rk)(hM:b_ M w):
 Calls prog 163 #[.agg (aV r s1 s2 s3 s4 s5 s6 s7).toArray] w fun e w'=>∃L,e=.returned (.tuple #[.slice (some ⟨L,0,none⟩) s4.n s4.n,.int .i64 0])/\Vo w' M L s4.n r/\w.heap.size<=L/\Below w w w':=by
 refine wid ?_;obtain⟨A4,n4,c4⟩:=s4;have an:r.ties.length=n4:=hr.ties.len;have ao:n4<=5:=by have:=T.few;omega
 have mm:=Yk;have mk:=Yj n4 pj;obtain⟨W1,am,F1⟩:=dR (((Fr.nil w).a w [r.name,.slice s1.A s1.n s1.c,.slice s2.A s2.n s2.c,.slice s3.A s3.n s3.c,.slice A4 n4 c4,.slice s5.A s5.n s5.c,.slice s6.A s6.n s6.c,.slice s7.A s7.n s7.c,r.best] 28).a (w+1) [.slice none 0 0] 161);obtain⟨f,K⟩:=aC ((((W1.alloc (.map #[] 0)).alloc (.cells #[.map (some W1.heap.size)] 251)).alloc (.cells #[false] 4)).alloc (.cells #[false] 4));have bm:Below W1 W1 (W1.alloc (.map #[] 0)):=by exact bel
 have F3:Fr w f ([]++ [(w.heap.size, [.string r.name,.slice s1.A s1.n s1.c,.slice s2.A s2.n s2.c,.slice s3.A s3.n s3.c,.slice A4 n4 c4,.slice s5.A s5.n s5.c,.slice s6.A s6.n s6.c,.slice s7.A s7.n s7.c,.int .i64 r.best])]++ [(w.heap.size+1, [.slice none 0 0])]++ [(W1.heap.size+1, [.map (some W1.heap.size)])]++ [(W1.heap.size+1+1, [.bool false])]++ [(W1.heap.size+1+1+1, [.bool false])]):=by rw[<-K];exact(((F1.go bm).a (W1+1) _ _).a (W1+1+1) _ _).a (W1+1+1+1) _ _
 have z3:f.heap.size=W1.heap.size+4:=by rw[<-K];simp
 have yY:Below (W1.alloc (.map #[] 0)).heap.size (W1.alloc (.map #[] 0)) f:=by rw[<-K];exact bel
 obtain⟨j,G⟩:=aC (f.alloc (.cells (Array.replicate n4 (Value.slice none 0 0)) 110));have x:Below f f j:=by rw[<-G];exact bel
 obtain⟨g,V⟩:=aC (j.setCell ⟨w+1,0,none⟩ (.slice (some ⟨f,0,none⟩) n4 n4));have E:KB (w.heap.size+1) j g:=by rw[<-V];exact KB.put (v:=.slice none 0 0) ⟨(F3.go x).aQ 1 0,(F3.go x).zN 1 0⟩
 obtain⟨o,H⟩:=aC (g.alloc (.cells #[.func (.func 217) #[] #[.pointer (some ⟨W1+1,0,none⟩),.pointer (some ⟨W1+1+1,0,none⟩),.pointer (some ⟨w+1,0,none⟩),.pointer (some ⟨w,0,none⟩),.pointer (some ⟨g,0,none⟩),.pointer (some ⟨W1+1+1+1,0,none⟩)]] 252));have y:Below g g o:=by rw[<-H];exact bel
 have ai:j.heap.size=f.heap.size+1:=by rw[<-G];simp
 have ak:o.heap.size=g.heap.size+1:=by rw[<-H];simp
 have ap:=F1.mJ 1;have aq:=F3.mJ 4;have aj:=E.k.size;have p:∀b,b<j.heap.size->b≠w.heap.size+1->o.heap[b]?=j.heap[b]?:=fun b hb af=>(y.block b (bX hb aj)).trans (E.k.block b hb (by simpa using af));have F4:=F3.go x;have J:Below w w o:=(F4.bl.trans (E.bl.mono pj)).trans (y.mono pj);have S:aZ g (w.heap.size+1) (.slice (some ⟨f,0,none⟩) n4 n4):=by rw[<-V];exact aZ.put (v:=.slice none 0 0) ⟨F4.aQ 1 0,F4.zN 1 0⟩
 have ac:MV [false,true] j W1.heap.size 0 (qG fun _=>false):=by have:=MV.new [false,true] W1;rw[show qG (fun _=>false)=fun _=>none from funext fun k=>by simp[qG]];exact(this.go yY).go x
 have I:Ai w o o.heap.size w.heap.size (W1.heap.size+1) W1.heap.size (W1.heap.size+1+1) (W1.heap.size+1+1+1) (w.heap.size+1) f.heap.size g.heap.size (f.heap.size::W1.heap.size::M) r [] A4 n4 c4 0 (fun _=>false):=by
  have vx:=Yl (w:=g) (b:=g) (.func (.func 217) #[] #[.pointer (some ⟨W1+1,0,none⟩),.pointer (some ⟨W1+1+1,0,none⟩),.pointer (some ⟨w+1,0,none⟩),.pointer (some ⟨w,0,none⟩),.pointer (some ⟨g,0,none⟩),.pointer (some ⟨W1+1+1+1,0,none⟩)]) 252 rfl;rw[H]at vx;refine{ bl:=J,rc:=?_,vo:=aZ.block ⟨F4.aQ 2 0,F4.zN 2 0⟩ (p _ pj pj),vc:=aZ.block ⟨F4.aQ 3 0,F4.zN 3 0⟩ (p _ pj pj),vg:=aZ.block ⟨F4.aQ 4 0,F4.zN 4 0⟩ (p _ pj pj),vl:=S.block (y.block _ S.lt),vx:=vx,mv:=ac.block (p _ pj pj),ts:=?_,rows:=fun i Q=>?_,ge:=by omega,ne:=by omega,nm:=by omega,lt:=by omega,BW:=bj _,wB:=by omega,mM:=⟨cw,bE _ cw⟩,hM:=fun q s=>?_ };·rw[eZ (w:=j) (p _ (by show w.heap.size<_;omega) (by show w.heap.size≠_;omega))];exact F4.aQ 0 4
  ·exact((hr.ties.more (b:=W1) pj).more (b:=f) pj).keep (bq J _)
  ·have hn:j.heap[f.heap.size]?=some (.cells (Array.replicate n4 (Value.slice none 0 0)) 110 (0,0)):=by rw[<-G];exact gH f _
   have hc:j.cell? ⟨f,i,none⟩=some (.slice none 0 0)/\j.frozen? ⟨f,i,none⟩=false:=by unfold World.cell? World.frozen?;simp only[hn];simp[Q]
   obtain⟨g1,g2⟩:=jB hc (p _ pj pj);exact⟨g2,none,0,0,g1,.inl ⟨rfl,rfl⟩⟩
  rcases cD.1 s with rfl|s;·omega
  rcases cD.1 s with rfl|s;·omega
  have:=hM q s;omega
 have HX:=Hd I;have al:=F4.aQ 0 4;have d4:o.cell? ⟨w,4,none⟩=_:=I.rc;have e4:=F3.aQ 0 4;have q1:=F3.aQ 3 0;have q2:=F3.zN 3 0;have q3:=F3.aQ 4 0;have q4:=F3.zN 4 0;have q5:=aN q1;have q6:=aN q3;have e5:=F4.aQ 1 0;have e6:=F4.zN 1 0;clear I F4 F3 F1 E y x bm yY p J S ac hr z3 ai ak;refine ent func163 ntmps163 ?_;gi_wp2;gi_loopw[18] (fun i wr=>∃k:Nat,k<=n4/\i=k/\Hid (∃n,n<=k*3125/\Ai w wr o.heap.size w.heap.size (W1.heap.size+1) W1.heap.size (W1.heap.size+1+1) (W1.heap.size+1+1+1) (w.heap.size+1) f.heap.size g.heap.size (f.heap.size::W1.heap.size::M) r [] A4 n4 c4 n (fun _=>false))) (fun i _=>n4-(intOf i).toNat);case atStart=>exact⟨0,cf _,rfl,⟨0,cf _,HX.out⟩⟩
 case round=>
  obtain⟨k,hk,rfl,N⟩:=hrel;by_cases aa:k<n4
  ·obtain⟨nn,z,X⟩:=N.out;have x1:=X.vx.1;have ah:=T.top k pj;have hp:(5:Nat)^(rk k+1)<=5^5:=iH pj pj;have ab:(5:Nat)^5=3125:=pt;have HE:=Hd (Dt T (rk k+1) k (e_ _) X (fun u hu=>by cases hu) aa pj);have HP:=Hd (And.intro z (And.intro hp ab));clear X z hp ab ah
   gi_wp2_with (first
    |(refine Cl 217 HE.out ?_;rintro e w2 ⟨A',m',c',n',rfl,ag,Z,ae,k2⟩;have Zy:Hid (∃n,n<=(k+1)*3125/\Ai w w2 o.heap.size w.heap.size (W1.heap.size+1) W1.heap.size (W1.heap.size+1+1) (W1.heap.size+1+1+1) (w.heap.size+1) f.heap.size g.heap.size (f.heap.size::W1.heap.size::M) r [] A4 n4 c4 n (fun _=>false)):=by
       have:=HP.out;exact⟨n',pj,Z⟩
      clear ag Z ae k2)
    |fail)
   exact⟨⟨k+1,pj,by go_num,Zy⟩,by simp[intOf];omega⟩
  ·have ad:k=n4:=pj;clear hk aa;subst ad;obtain⟨nn,z,X⟩:=N.out;have x1:=X.vc.1;have x2:=X.vg.1;have x3:=X.vl.1;have x4:=X.vl.2;have x5:=aN x3;have Y:=Hd (And.intro X.rows (And.intro X.ge.2.2.2.2.2.2.1 X.bl));clear X N z;gi_wp2;refine⟨rfl,.tuple #[.slice (some ⟨f,0,none⟩) k k,.int .i64 0],by simp[results,go_sem,x3],f.heap.size,rfl,fun i Q=>(Y.out.1 i Q).lessM (fun q s=>bE _ (bE _ s)),Y.out.2⟩
end
section
open Go.RowKit Go.Shelf
theorem Vp(x:aU):ZO x:=by
 induction x using iY with
 |_ x ih=>
 intro y M M' A B m c m' c' w hx j;refine wid ?_;have f:=KA x y;have IH:=Hd ih;obtain⟨l,S⟩:=aC x.l;obtain⟨l',Y⟩:=aC y.l;obtain⟨X,G⟩:=aC (fE x y);rw[S]at hx IH f;rw[Y]at j f;rw[G]at f |-;obtain⟨kd,J⟩:=aC x.kind;obtain⟨nm,K⟩:=aC x.name;obtain⟨xn,T⟩:=aC x.n;obtain⟨xd,Q⟩:=aC x.d;obtain⟨aa,q⟩:=aC y.kind;obtain⟨o,N⟩:=aC y.name;obtain⟨yn,Z⟩:=aC y.n;obtain⟨yd,V⟩:=aC y.d;rw[J,K,T,Q,q,N,Z,V]at f |-;clear J K T Q q N Z V S Y G ih;obtain⟨W1,ad,F1⟩:=dR (((Fr.nil w).a w [kd,nm,xn,xd,.slice A m c] 66).a (w+1) [aa,o,yn,yd,.slice B m' c'] 66);refine op1 F1 ?_;intros;have HB:=Hd F1.bl;have p:=Hd2 (hx.go F1.bl) (j.go F1.bl);have E:=Hd f;clear F1 hx j f;by_cases H:kd=aa
 ·subst H;by_cases g:nm=o
  ·subst g;by_cases s:xn=yn
   ·subst s;by_cases z:xd=yd
    ·subst z;have HX:=Hd (show X=fQ l l' by rw[E.out];simp);refine ent func203 ntmps203 ?_
     gi_wp2_with (first
      |(refine Cl 250 (Yd p.a p.u IH.out) ?_;rintro e w2 ⟨rfl,I⟩;have ab:=Hd (HB.out.trans (I.mono HB.out.size));clear I)
      |fail)
     go_ret;exact⟨by rw[HX.out];rfl,ab.out⟩
    have HX:=Hd (show X=false by rw[E.out];simp[z]);exact Bc
   have HX:=Hd (show X=false by rw[E.out];simp[s]);exact Bc
  have HX:=Hd (show X=false by rw[E.out];simp[g]);have ac:¬nm.toList=o.toList:=fun h=>g (oF (Array.ext' (by rwa [Lib.toList_data,Lib.toList_data]at h)));exact Bc
 have HX:=Hd (show X=false by rw[E.out];simp[H]);exact Bc
def eqF{α:Type}(P:α->α->Bool):List α->List α->Bool
 | [], []=>true
 |x::l,y::l'=>P x y&&eqF P l l'
 |_,_=>false
theorem Jf{α:Type}(P:α->α->Bool):∀{l l':List α},l.length≠l'.length->eqF P l l'=false
 | [], [],h=>absurd rfl h
 | [],_::_,_=>rfl
 |_::_, [],_=>rfl
 |x::l,y::l',h=>by rw[eqF,Jf P (fun e=>h (by simp[e])),Bool.and_false]
theorem KO{α:Type}(P:α->α->Bool){l l':List α}{x y:α}(hx:l[k]?=some x)(hy:l'[k]?=some y):eqF P (l.drop k) (l'.drop k)=(P x y&&eqF P (l.drop (k+1)) (l'.drop (k+1))):=by obtain⟨e,f⟩:=bu.1 hx;obtain⟨s,g⟩:=bu.1 hy;have H:=cL e;have a:=cL s;rw[H,a,eqF,f,g]
def Ak(x y:dA):Bool:=decide (x.2=y.2)
def vW(x y:aJ):Bool:=decide (x.2.2.2.2.2.2.2.2=y.2.2.2.2.2.2.2.2)&&fE (au x) (au y)
theorem Vq{x y:dA}{M:List Nat}{B:Option Addr}{n:Nat}{w:World}(hx:Sl bK w M A n c x.2)(hy:Sl bK w M' B m d y.2):
 CB 199 #[.agg #[x.1,.slice A n c],.agg #[y.1,.slice B m d]] (.bool (Ak x y)) w:=by
 refine wid ?_;obtain⟨W1,o,F1⟩:=dR (((Fr.nil w).a w [x.1,.slice A n c] 142).a (w+1) [y.1,.slice B m d] 142);refine op1 F1 ?_;intros;have HB:=Hd F1.bl;have f:=Hd2 (hx.go F1.bl) (hy.go F1.bl);clear F1 hx hy;refine ent func199 ntmps199 ?_
 gi_wp2_with (first
  |(refine Cl 200 (Ya f.a f.u) ?_;rintro e p ⟨rfl,g⟩;have j:=Hd (HB.out.trans (g.mono HB.out.size));clear g)
  |fail)
 go_ret;exact⟨rfl,j.out⟩
theorem Vr{x y:aJ}{M:List Nat}{B:Option Addr}{n:Nat}{w:World}(hx:Sl aU w M A n c (au x).l)(hy:Sl aU w M' B m d (au y).l):
 CB 202 #[.agg #[x.1,x.2.1,x.2.2.1,x.2.2.2.1,x.2.2.2.2.1,x.2.2.2.2.2.1,(au x).kind,(au x).name,(au x).n,(au x).d,.slice A n c,x.2.2.2.2.2.2.2.1,x.2.2.2.2.2.2.2.2],.agg #[y.1,y.2.1,y.2.2.1,y.2.2.2.1,y.2.2.2.2.1,y.2.2.2.2.2.1,(au y).kind,(au y).name,(au y).n,(au y).d,.slice B m d,y.2.2.2.2.2.2.2.1,y.2.2.2.2.2.2.2.2]] (.bool (vW x y)) w:=by
 refine wid ?_;obtain⟨j,f⟩:=aC x.2.2.2.2.2.2.2.2;obtain⟨o,g⟩:=aC y.2.2.2.2.2.2.2.2;have E:=Hd (show vW x y=(decide (j=o)&&fE (au x) (au y)) by unfold vW;rw[f,g]);rw[f,g];clear f g;obtain⟨W1,z,F1⟩:=dR (((Fr.nil w).a w [x.1,x.2.1,x.2.2.1,x.2.2.2.1,x.2.2.2.2.1,x.2.2.2.2.2.1,(au x).kind,(au x).name,(au x).n,(au x).d,.slice A n c,x.2.2.2.2.2.2.2.1,j] 68).a (w+1) [y.1,y.2.1,y.2.2.1,y.2.2.2.1,y.2.2.2.2.1,y.2.2.2.2.2.1,(au y).kind,(au y).name,(au y).n,(au y).d,.slice B m d,y.2.2.2.2.2.2.2.1,o] 68);refine op1 F1 ?_;intros;have HB:=Hd F1.bl;have p:=Hd2 (hx.go F1.bl) (hy.go F1.bl);clear F1 hx hy;by_cases X:j=o
 ·subst X;refine ent func202 ntmps202 ?_
  gi_wp2_with (first
   |(refine Cl 203 (Vp (au x) (y:=au y) p.a p.u) ?_;rintro e G ⟨rfl,q⟩;have s:=Hd (HB.out.trans (q.mono HB.out.size));clear q)
   |fail)
  go_ret;exact⟨by rw[E.out];simp,s.out⟩
 ·have HX:=Hd (show vW x y=false by rw[E.out];simp[X]);refine ent func202 ntmps202 ?_;exact akI
theorem Ym{M:List Nat}{B:Option Addr}{n:Nat}{l l':List dA}{w:World}(hx:Sl dA w M A n c l)(hy:Sl dA w M' B m d l'):
 CB 198 #[.slice A n c,.slice B m d,.func (.func 199) #[] #[]] (.bool (eqF Ak l l')) w:=by
 refine wid ?_;have I:=hx.len;have J:=hy.len;have ag:=hx.small;have eg:=eR (P:=prog) func199 pk rfl;by_cases ad:n=m
 ·subst ad;have H:=Hd2 hx hy;have HL:=Hd2 I J;have ab:=Hd (bL w w);have Un:=Hd (show eqF Ak (l.drop 0) (l'.drop 0)=eqF Ak l l' by simp);clear hx hy I J;refine ent func198 ntmps198 ?_;gi_wp2;gi_loopw[17] (fun i wr=>∃k:Nat,k<=n/\i=k/\Hid (Below w w wr)/\Hid (eqF Ak (l.drop k) (l'.drop k)=eqF Ak l l')) (fun i _=>n-(intOf i).toNat);case atStart=>exact⟨0,cf _,rfl,ab,Un⟩
  case round=>
   obtain⟨k,hk,rfl,g,G⟩:=hrel;by_cases K:k<n
   ·obtain⟨x,N⟩:=dW l k (by rw[HL.a];exact K);obtain⟨y,Q⟩:=dW l' k (by rw[HL.u];exact K);have aa:=KO Ak N Q;obtain⟨b1,o1,B1,m1,d1,rfl,⟨p0,p1⟩,hs1⟩:=(H.a.go g.out).n_ N;obtain⟨Y,ae,f,S⟩:=fP (w:=wr) ((Fr.nil wr).a wr [x.1,.slice B1 m1 d1] 142);obtain⟨b2,o2,B2,m2,d2,rfl,⟨q0,q1⟩,hs2⟩:=((H.u.go g.out).go f).n_ Q;obtain⟨V2,af,s,T⟩:=fP (w:=Y) ((S).a Y [y.1,.slice B2 m2 d2] 142);refine op1 T ?_;intros;obtain⟨q,Z⟩:=aC (Ak x y);have V:=Hd (Vq (x:=x) (y:=y) ((hs1.go f).go s) (hs2.go s));have o:=Hd Z;have X:=Hd aa;have p:=Hd (g.out.trans ((f.trans (s.mono f.size)).mono g.out.size));clear N Q aa hs1 hs2 Z S T f s;cases q
    ·gi_wp2_with (first
       |(refine Cl 199 V.out ?_;rintro e w2 ⟨rfl,j⟩;rw[o.out];have z:=Hd (p.out.trans (j.mono p.out.size));clear j)
       |fail)
     go_ret;exact⟨by rw[<-G.out,X.out,o.out];rfl,z.out⟩
    gi_wp2_with (first
     |(refine Cl 199 V.out ?_;rintro e w2 ⟨rfl,j⟩;rw[o.out];have z:=Hd (p.out.trans (j.mono p.out.size));clear j)
     |fail)
    exact TI
   ·have ac:k=n:=pj;clear hk K;subst ac;have E:=Hd (show eqF Ak l l'=true by
     exact Xe)
    gi_wp2;go_ret;exact⟨by rw[E.out];rfl,g.out⟩
 ·have E:=Hd (show eqF Ak l l'=false from Jf Ak pj);clear hx hy I J;refine ent func198 ntmps198 ?_;gi_wp2;go_ret;exact⟨by rw[E.out];rfl,bL _ _⟩
theorem Yn{M:List Nat}{B:Option Addr}{n:Nat}{l l':List aJ}{w:World}(hx:Sl aJ w M A n c l)(hy:Sl aJ w M' B m d l'):
 CB 201 #[.slice A n c,.slice B m d,.func (.func 202) #[] #[]] (.bool (eqF vW l l')) w:=by
 refine wid ?_;have I:=hx.len;have J:=hy.len;have ag:=hx.small;have eg:=eR (P:=prog) func202 pk rfl;by_cases ad:n=m
 ·subst ad;have H:=Hd2 hx hy;have HL:=Hd2 I J;have ab:=Hd (bL w w);have Un:=Hd (show eqF vW (l.drop 0) (l'.drop 0)=eqF vW l l' by simp);clear hx hy I J;refine ent func201 ntmps201 ?_;gi_wp2;gi_loopw[17] (fun i wr=>∃k:Nat,k<=n/\i=k/\Hid (Below w w wr)/\Hid (eqF vW (l.drop k) (l'.drop k)=eqF vW l l')) (fun i _=>n-(intOf i).toNat);case atStart=>exact⟨0,cf _,rfl,ab,Un⟩
  case round=>
   obtain⟨k,hk,rfl,g,G⟩:=hrel;by_cases K:k<n
   ·obtain⟨x,N⟩:=dW l k (by rw[HL.a];exact K);obtain⟨y,Q⟩:=dW l' k (by rw[HL.u];exact K);have aa:=KO vW N Q;obtain⟨b1,o1,B1,m1,d1,rfl,⟨p0,p1,p2,p3,p4,p5⟩,⟨p6,p7,p8,p9,p10⟩,⟨p11,p12⟩,-,-,hs1⟩:=(H.a.go g.out).iw N;obtain⟨Y,ae,f,S⟩:=fP (w:=wr) ((Fr.nil wr).a wr [x.1,x.2.1,x.2.2.1,x.2.2.2.1,x.2.2.2.2.1,x.2.2.2.2.2.1,(au x).kind,(au x).name,(au x).n,(au x).d,.slice B1 m1 d1,x.2.2.2.2.2.2.2.1,x.2.2.2.2.2.2.2.2] 68);obtain⟨b2,o2,B2,m2,d2,rfl,⟨q0,q1,q2,q3,q4,q5⟩,⟨q6,q7,q8,q9,q10⟩,⟨q11,q12⟩,-,-,hs2⟩:=((H.u.go g.out).go f).iw Q;obtain⟨V2,af,s,T⟩:=fP (w:=Y) ((S).a Y [y.1,y.2.1,y.2.2.1,y.2.2.2.1,y.2.2.2.2.1,y.2.2.2.2.2.1,(au y).kind,(au y).name,(au y).n,(au y).d,.slice B2 m2 d2,y.2.2.2.2.2.2.2.1,y.2.2.2.2.2.2.2.2] 68);refine op1 T ?_;intros;obtain⟨q,Z⟩:=aC (vW x y);have V:=Hd (Vr (x:=x) (y:=y) ((hs1.go f).go s) (hs2.go s));have o:=Hd Z;have X:=Hd aa;have p:=Hd (g.out.trans ((f.trans (s.mono f.size)).mono g.out.size));clear N Q aa hs1 hs2 Z S T f s;cases q
    ·gi_wp2_with (first
       |(refine Cl 202 V.out ?_;rintro e w2 ⟨rfl,j⟩;rw[o.out];have z:=Hd (p.out.trans (j.mono p.out.size));clear j)
       |fail)
     go_ret;exact⟨by rw[<-G.out,X.out,o.out];rfl,z.out⟩
    gi_wp2_with (first
     |(refine Cl 202 V.out ?_;rintro e w2 ⟨rfl,j⟩;rw[o.out];have z:=Hd (p.out.trans (j.mono p.out.size));clear j)
     |fail)
    exact TI
   ·have ac:k=n:=pj;clear hk K;subst ac;have E:=Hd (show eqF vW l l'=true by
     exact Xe)
    gi_wp2;go_ret;exact⟨by rw[E.out];rfl,g.out⟩
 ·have E:=Hd (show eqF vW l l'=false from Jf vW pj);clear hx hy I J;refine ent func201 ntmps201 ?_;gi_wp2;go_ret;exact⟨by rw[E.out];rfl,bL _ _⟩
theorem Dv{α:Type}{P:α->α->Bool}:∀{l:List α},(∀x,x∈l->P x x=true)->eqF P l l=true
 | [],_=>rfl
 |x::l,h=>by rw[eqF,h x cw,Dv (fun y hy=>h y (bE _ hy))];rfl
mutual
theorem Oe:∀x:aU,fE x x=true
 | .mk k s n d l=>by rw[fE,aac l];simp
theorem aac:∀l:List aU,fQ l l=true
 | []=>by rw[fQ]
 |x::l=>by rw[fQ,Oe x,aac l];rfl
end
theorem RQ{M:List Nat}{r:aS}{w:World}(hr:dG w M r s1 s2 s3 s4 s5 s6 s7)(hg:ZH r)(ht:Tab w)(hM:b_ M w):
 CB 161 #[.agg (aV r s1 s2 s3 s4 s5 s6 s7).toArray] (.int .i64 0) w:=by
 refine wid ?_;obtain⟨W1,E,F1⟩:=dR ((Fr.nil w).a w (aV r s1 s2 s3 s4 s5 s6 s7) 28);refine op1 F1 ?_;intros;have H:=h_ (hr.go F1.bl) hg (tab_below ht F1.bl) (hM.le F1.bl.size);have HF:=Hd F1;clear F1 hr hg ht hM;refine ent func161 ntmps161 ?_
 gi_wp2_with (first
  |(refine Cl 201 (Yn (f.b.go HB.out) (f.w.rounds.go HB.out)) ?_;rintro e J ⟨rfl,q⟩;rw[Dv (fun x _=>by unfold vW;rw[Oe];simp)];have y:=Hd (f.c.trans ((HB.out.trans (q.mono HB.out.size)).mono f.c.size));clear q)
  |(refine Cl 198 (Ym f.a f.w.ties) ?_;rintro e I ⟨rfl,hb4⟩;rw[Dv (fun x _=>by unfold Ak;simp)];have HB:=Hd hb4;have s:=F3.out.go hb4;refine op1 s ?_;intros;clear hb4 s)
  |(refine Cl 197 (UQ H.a H.b H.c H.w) ?_;rintro e u ⟨A4,c4,A5,c5,rfl,o,p,hb⟩;obtain⟨z,G,j,g⟩:=fP (w:=u) ((HF.out.go hb).a u [r.name,s1.v,s2.v,s3.v,.slice A4 s4.n c4,.slice A5 s5.n c5,s6.v,s7.v,r.best] 28);have f:=h_ (o.go j) (p.go j) g.bl ((H.a.go hb).go j);have F3:=Hd g;refine op1 g ?_;intros;clear o p hb g j)
  |fail)
 go_ret;exact⟨rfl,y.out⟩
attribute [local go_sem] cX
def Hg(i:Nat)(k:bK):Prop:=k.1≠2\/k.2.2<(i:Int)
def backOk(r:aS)(i:Nat)(x:aJ):Prop:=(∀y,y∈iZ (au x)->y.kind=5->y.n<(i:Int))/\(0<=x.2.2.2.2.2.2.2.2->∃t:Nat,x.2.2.2.2.2.2.2.2=(t:Int)/\t<r.ties.length/\∀k,k∈Jd r t->Hg i k)
theorem Oh{k:bK}{w:World}(hv:aZ w b (.int .i64 (i:Int)))(h:Hg i k):CB 166 #[.agg #[k.1,k.2.1,k.2.2],.pointer (some ⟨b,0,none⟩)] true w:=by
 obtain⟨d,s,n⟩:=k;simp only[Hg]at h;refine wid ?_;obtain⟨W1,p,F1⟩:=dR ((Fr.nil w).a w [d,s,n] 113);have G:=(aZ.block hv (F1.bl.block _ hv.lt)).1;have HB:=Hd F1.bl;refine op1 F1 ?_;intros;clear F1 hv;by_cases e:d=2;·subst e;have j:n<(i:Int):=h.resolve_left (fun g=>g rfl);have f:decide (n<(i:Int))=true:=cx j;refine ent func166 ntmps166 ?_;gi_wp2;go_ret;exact⟨by first|rfl|simp[f,j],HB.out⟩
 have f:(d==2)=false:=cU.2 e;have o:(d !=2)=true:=fu.2 e;refine ent func166 ntmps166 ?_;gi_wp2;go_ret;exact⟨by first|rfl|simp[f,o],HB.out⟩
end
section
open Go.RowKit Go.Shelf
def mkD(D:Nat):Deferred:={ target:=.collected D,args:=#[] }
structure ig(B:Nat)(W:World)(Ds:List Nat):Prop where
 nd:Ds.Nodup
 open_:∀D,D∈Ds->B<=D/\W.heap[D]?=some (.deferred (some []))
theorem ig.nil(B:Nat)(W:World):ig B W []:=⟨List.nodup_nil,fun _ h=>by cases h⟩
theorem ig.lt{B:Nat}{W:World}(h:ig B W Ds)(hD:D∈Ds):D<W.heap.size:=(cR.1 (h.open_ D hD).2).1
theorem ig.go{B:Nat}{W W':World}(h:ig B W Ds)(hb:Below W W W'):ig B W' Ds:=⟨h.nd,fun D hD=>⟨(h.open_ D hD).1,(hb.block D (h.lt hD)).trans (h.open_ D hD).2⟩⟩
theorem ig.add{B:Nat}{W:World}(h:ig B W Ds)(hD:W.heap[D]?=some (.deferred (some [])))(hB:B<=D)(hn:D∉Ds):ig B W (D::Ds):=⟨ko.2 ⟨hn,h.nd⟩,fun E hE=>by
  rcases cD.1 hE with rfl|hE;·exact⟨hB,hD⟩
  exact h.open_ E hE⟩
theorem ig.Jc{B C:Nat}(hC:∀D,D∈Ds->D<C):jC C (fun W=>ig B W Ds):=by intro W W' j h f g;refine⟨h.nd,fun D a=>⟨(h.open_ D a).1,(f.block D (h.lt a) (fun e=>?_)).trans (h.open_ D a).2⟩⟩;have:=(g D e.symm).1;have:=hC D a;omega
theorem Il{F:Fence}{n:Nat}{P:Program}{fn:Func}{tmps:Array Value}{R:Ending->World->Prop}{B:Nat}(S:World->Prop)(hS:∀W D,S W->B<=D->W.heap[D]?=some (.deferred (some []))->S (W.putObj D (.deferred none)))(hR:∀W,S W->LeavesIn F n P fn tmps R [] .returning W):
 ∀(Ds:List Nat) (W:World),S W->ig B W Ds->LeavesInM F n P fn tmps R (Ds.map mkD) .returning W
 | [],W,h,_=>hR W h
 |D::Ds,W,h,hm=>by have hD:=hm.open_ D cw;refine⟨po,.inl ⟨D,W.putObj D (.deferred none),rfl,jt hD.2,Il S hS hR Ds _ (hS W D h hD.1 hD.2) ⟨(ko.1 hm.nd).2,fun E hE=>?_⟩⟩⟩;have hE2:=hm.open_ E (bE _ hE);refine⟨hE2.1,?_⟩;have hne:E≠D:=fun e=>(ko.1 hm.nd).1 (e▸hE);have hlt:=hm.lt (bE _ hE);exact((grownBy_putObj' W D (.deferred none)).block E hlt (fun e=>hne (by cases e;rfl))).trans hE2.2
def vC(t:Array Value)(slots:List Nat)(us:Nat->Value):Array Value:=slots.foldl (fun t s=>t.setIfInBounds s (us s)) t
theorem Io{us:Nat->Value}{i:Nat}:∀(slots:List Nat) (t:Array Value),t[i]?=some (us i)->(vC t slots us)[i]?=some (us i)
 | [],_,h=>h
 |s::l,t,h=>by
  refine Io l (t.setIfInBounds s (us s)) ?_;have hlt:=(cR.1 h).1;rw[Array.getElem?_setIfInBounds];split;·rename_i e;subst e;simp[hlt]
  exact h
theorem MQ{us:Nat->Value}{i:Nat}:∀(slots:List Nat) (t:Array Value),i∈slots->i<t.size->(vC t slots us)[i]?=some (us i)
 |s::l,t,h,hi=>by
  by_cases e:i=s;·subst e;exact Io l _ (by rw[Array.getElem?_setIfInBounds];simp[hi])
  rcases cD.1 h with h|h;·exact absurd h e
  exact MQ l _ h (by simp[hi])
theorem TM{t:Array Value}{slots:List Nat}(hs:∀i,i∈slots->i<t.size):vC t slots (fun i=>t.getD i undef)=t:=by
 suffices h:∀(l:List Nat) (a:Array Value),(∀i,i∈l->i<t.size)->a=t->vC a l (fun i=>t.getD i undef)=t from h slots t hs rfl
 intro l
 induction l with
 |nil=>exact fun a _ h=>h
 |cons s l ih=>
  rintro a f rfl;refine ih _ (fun i u=>f i (bE _ u)) ?_;have o:=f s cw;apply ph;·simp
  ·intro i g j;rw[Array.getElem_setIfInBounds];split;·rename_i e;subst e;simp[Array.getD,o]
   rfl
theorem Pm{n:Nat}{Q:Exit->Act->World->Prop}{t:Array Value}{ds0:List Deferred}{w:World}{c:Code}(slots:List Nat)(s:Nat)(rel:Value->List Deferred->World->Prop)(mu:Value->Nat)
 (hs:s∈slots) (hsz:∀i,i∈slots->i<t.size) (h0:rel (t.getD s undef) ds0 w)
 (round:∀us ds w,rel (us s) ds w->∀K:Act->World->Prop,(∀t' ds' w',vC t slots (fun i=>t'.getD i undef)=t'->rel (t'.getD s undef) ds' w'->mu (t'.getD s undef)<mu (us s)->K ⟨t',ds'⟩ w')->c.wpIn F n P (Exit.then K Q) ⟨vC t slots us,ds⟩ w):
 (Code.loop c).wpIn F n P Q ⟨t,ds0⟩ w:=by
 refine wpIn_loop (fun a w=>∃us ds,a=⟨vC t slots us,ds⟩/\rel (us s) ds w) (fun a _=>mu (a.tmps.getD s undef)) ⟨_,ds0,by rw[TM hsz],h0⟩ ?_;rintro a w ⟨us,ds,rfl,g⟩;refine round us ds w g _ (fun t' ds' w' e j o=>⟨⟨_,ds',by rw[e],j⟩,?_⟩);have f:(vC t slots us).getD s undef=us s:=by have:=MQ (us:=us) slots t hs (hsz s hs);rw[mo,this];rfl
 show mu (t'.getD s undef)<mu ((vC t slots us).getD s undef);rw[f];exact o
attribute [local go_sem] cX
structure CkI(w W:World)(r:aS)(M:List Nat)(L n4:Nat):Prop where
 bl:Below w w W
 l:aZ W (w.heap.size+1) (.slice (some ⟨L,0,none⟩) n4 n4)
 e:aZ W (w.heap.size+2) (.int .i64 0)
 rows:Vo W M L n4 r
theorem zh.lt{W:World}{M:List Nat}{L:Nat}{r:aS}(h:zh W M L r i):L<W.heap.size:=by obtain⟨_,A,m,c,a,_⟩:=h;exact bw W _ a
theorem zh.go{W W':World}{M:List Nat}{L:Nat}{r:aS}(h:zh W M L r i)(hb:Below W W W'):zh W' M L r i:=h.keep (bq hb M) (hb.block _ h.lt)
theorem CkI.go{w W W':World}{r:aS}{M:List Nat}{L n4:Nat}(h:CkI w W r M L n4)(k:Below W W W'):CkI w W' r M L n4:=⟨h.bl.trans (k.mono h.bl.size),h.l.block (k.block _ h.l.lt),h.e.block (k.block _ h.e.lt),fun i hi=>(h.rows i hi).go k⟩
structure CkR(W5 U:World)(Ds:List Nat)(ib k xb:Nat)(cs:List Value):Prop where
 bl:Below W5 W5 U
 ms:ig W5.heap.size U Ds
 i:aZ U ib (.int .i64 (k:Int))
 x:∀i u,cs[i]?=some u->U.cell? ⟨xb,i,none⟩=some u
theorem CkR.Jc{W5 U0:World}{Ds:List Nat}{ib k xb B:Nat}{cs:List Value}(h:CkR W5 U0 Ds ib k xb cs)(hB:U0.heap.size<=B):jC B (fun U=>CkR W5 U Ds ib k xb cs):=by intro W W' j g a e;exact⟨kY (B:=B) (w:=W5) pD (cF h.bl.size hB) _ _ _ g.bl a e,ig.Jc (fun D f=>bX (h.ms.lt f) hB) _ _ _ g.ms a e,jV B _ _ _ _ _ g.i a e,vU B _ _ _ _ _ g.x a e⟩
theorem CkR.go{W5 W W':World}{Ds:List Nat}{ib k xb:Nat}{cs:List Value}(h:CkR W5 W Ds ib k xb cs)(b:Below W W W'):CkR W5 W' Ds ib k xb cs:=⟨h.bl.trans (b.mono h.bl.size),h.ms.go b,h.i.block (b.block _ h.i.lt),fun i u hu=>(b.cell (p:=⟨xb,i,none⟩) (bw W _ (h.x i u hu))).trans (h.x i u hu)⟩
def JG:List Nat:= [4,5,6,26,27,28,29,30,31,32,33,34,35,36,37,38,39,40,41,42,43,44,45,46,47,48,49,50,51,52,53,54,55,56,57]
theorem Pn:∀i,i∈JG->i<59:=pt
theorem Po{M:List Nat}{r:aS}{w:World}(hr:dG w M r s1 s2 s3 s4 s5 s6 s7)(hg:ZH r)(hf:F15 r)(T:T15 r rk)(hl:∀i x,r.rounds[i]?=some x->backOk r i x)(ht:Tab w)(hM:b_ M w):
 Calls prog 117 #[.agg (aV r s1 s2 s3 s4 s5 s6 s7).toArray] w fun e w'=>∃L,e=.returned (.tuple #[.slice (some ⟨L,0,none⟩) s4.n s4.n,.int .i64 0])/\Vo w' M L s4.n r/\Below w w w':=by
 refine wid ?_;obtain⟨W1,a5,F1⟩:=dR ((((Fr.nil w).a w [r.name,.slice s1.A s1.n s1.c,.slice s2.A s2.n s2.c,.slice s3.A s3.n s3.c,.slice s4.A s4.n s4.c,.slice s5.A s5.n s5.c,.slice s6.A s6.n s6.c,.slice s7.A s7.n s7.c,r.best] 28).a (w+1) [.slice none 0 0] 161).a0 (w.heap.size+1+1) 32);have HF:=Hd F1;have HR:=Hd (And.intro (hr.go F1.bl) ((hr.more (b:=w+1) pj).go F1.bl));have HC:=Hd (RQ (hr.go F1.bl) hg (tab_below ht F1.bl) (hM.le F1.bl.size));have Ny:=Hd hf;have HL:=Hd hl;have HM:=Hd (F1.aiY hM (b:=w+1) (vs:= [.slice none 0 0]) po);refine op1 F1 ?_;intros;clear F1 hr hg hf hl ht hM;refine sH func117 rfl ntmps117 ?_
 gi_wp2_with (first
  |(refine Cl 163 (Du (HR.out.2.go G.out) T (HM.out.le G.out.size)) ?_;rintro e w4 ⟨L,rfl,rows,hL,hb4⟩;have B4:=Hd2 (G.out.trans (hb4.mono G.out.size)) rows;obtain⟨g,CZ⟩:=aC (w4.setCell ⟨w+1,0,none⟩ (.slice (some ⟨L,0,none⟩) s4.n s4.n));have f:=HF.out.go B4.a;have V:KB (w.heap.size+1) w4 g:=by rw[<-CZ];exact KB.put (v:=.slice none 0 0) ⟨f.aQ 1 0,f.zN 1 0⟩
    have o:Fr w g [(w, [r.name,.slice s1.A s1.n s1.c,.slice s2.A s2.n s2.c,.slice s3.A s3.n s3.c,.slice s4.A s4.n s4.c,.slice s5.A s5.n s5.c,.slice s6.A s6.n s6.c,.slice s7.A s7.n s7.c,r.best]),(w+1+1, [.int .i64 0])]:=(f.only (fun x hx=>by
       rcases cD.1 hx with rfl|hx;·simp
       ·rw[bz]at hx;subst hx;simp)).kb V pj (fun c vs hx=>by
       rcases cD.1 hx with hx|hx;·cases hx;omega
       rw[bz]at hx;cases hx;omega)
    have v5:aZ g (w.heap.size+1) (.slice (some ⟨L,0,none⟩) s4.n s4.n):=by rw[<-CZ];exact aZ.put (v:=.slice none 0 0) ⟨f.aQ 1 0,f.zN 1 0⟩
    have I5:CkI w g r M L s4.n:=⟨o.bl,v5,⟨o.aQ 1 0,o.zN 1 0⟩,fun i hi=>((rows i hi).keep (V.k.mono po) (V.k.block _ (rows i hi).lt (by have:=f.mJ 1;have:=(HF.out.go G.out).mJ 1;simp;omega))).lessM (fun q hq=>bE _ hq)⟩;have z:=fB I5 ((HR.out.2.go B4.a).keep (V.k.mono po)) o;have ba:=aN (o.aQ 1 0);have e5:=o.aQ 1 0;have e6:=o.zN 1 0;have e7:=o.aQ 0 5;have e8:=v5.1;have d8:=f.aQ 1 0;have d9:=f.zN 1 0;clear hb4 f rows o v5 V I5 hL)
  |(refine Cl 162 (KP (HR.out.1.go B2.out) Ny.out) ?_;rintro e w3 ⟨rfl,ap⟩;have G:=Hd (B2.out.trans (ap.mono B2.out.size));have f:=HF.out.go G.out;refine op1 f ?_;intros;clear ap f)
  |(refine Cl 161 HC.out ?_;rintro e w2 ⟨rfl,ae⟩;have B2:=Hd ae;have f:=HF.out.go ae;have a_:=aN (f.aQ 2 0);refine op1 f ?_;intros;clear ae f)
  |fail)
 refine Pm JG 26 (fun i ds wr=>∃(k:Nat) (Ds:List Nat),k<=s5.n/\i=k/\ds=Ds.map mkD/\ig g.heap.size wr Ds/\Below g g wr) (fun i=>s5.n-(intOf i).toNat) pt (fun i hi=>Pn i hi) ⟨0, [],cf _,rfl,rfl,.nil _ _,bL _ _⟩ ?_;rintro us ds wr ⟨k,Ds,hk,aj,rfl,ai,N⟩ K hK;rw[aj]at hK;have HK:=Hd hK;clear hK;simp only[vC,JG,nq,List.foldl_nil,eN,fq,eM,aj];clear aj;have HB:=Hd2 N ai;have a9:=z.b.rounds.small;by_cases aA:k<s5.n
 ·have ay:=z.b.rounds.len;obtain⟨x,ak⟩:=dW r.rounds k (by rw[ay];exact aA);have aq:=Hd (HL.out k x ak);obtain⟨b1,o1,D,m,d,hA,⟨p0,p1,p2,p3,p4,p5⟩,⟨p6,p7,p8,p9,p10⟩,⟨p11,p12⟩,⟨-,-,-,hi4⟩,ah,hsx⟩:=(z.b.rounds.go N).iw ak;obtain⟨J,a4,dD,G1⟩:=fP (w:=wr) (((Fr.nil wr).a wr [.int .i64 (k:Int)] 3).a (wr+1) [x.1,x.2.1,x.2.2.1,x.2.2.2.1,x.2.2.2.2.1,x.2.2.2.2.2.1,(au x).kind,(au x).name,(au x).n,(au x).d,.slice D m d,x.2.2.2.2.2.2.2.1,x.2.2.2.2.2.2.2.2] 68);have HG:=fB G1 hsx ah;refine op1 G1 ?_;intros;clear G1 hsx ah dD N ai ak ay
  gi_wp2_with (first
   |(refine Cl 164 (Dh (au x) D m d _) ?_;rintro e E ⟨rfl,aG⟩;have aI:=Hd aG;clear aG)
   |fail)
  have hw:=aI.out;have hb4:Below J J E:=by rw[<-hw];exact bel
  have F4:Fr J E [(J, [(au x).kind,(au x).name,(au x).n,(au x).d,.slice D m d])]:=by rw[<-hw];exact(Fr.nil J).a J.heap.size _ _
  have Z:=HG.a.go hb4;have aH:kH E ((w.heap.size+1)::M) (au x) [(au x).kind,(au x).name,(au x).n,(au x).d,.slice D m d]:=by have h7:=HG.v;have Y:=((HG.b.go HG.a.bl).go hb4);generalize au x=e at h7 Y |-;cases e;exact kH.of h7 Y
  have ag:Below g g E:=HB.out.1.trans (Z.bl.mono HB.out.1.size);have aB:=HB.out.2.go (HG.a.bl.trans (hb4.mono HG.a.bl.size));have R0:CkR g E Ds wr.heap.size k (wr.heap.size+1) [x.1,x.2.1,x.2.2.1,x.2.2.2.1,x.2.2.2.2.1,x.2.2.2.2.2.1,(au x).kind,(au x).name,(au x).n,(au x).d,.slice D m d,x.2.2.2.2.2.2.2.1,x.2.2.2.2.2.2.2.2]:=⟨ag,aB,⟨Z.aQ 0 0,Z.zN 0 0⟩,Z.nth 1⟩;have aF:=R0.Jc pD;have al:=Hd aB;refine m_ (M:= []) (w0:=E) rfl rfl trivial (eR func218 pk rfl) (xR (aH.less (M':= []) pH) (F4.nth 0) po pH) (cG _ _) pH (fun v hv=>GX hv) (fun a2 W=>CkR g W Ds wr.heap.size k (wr.heap.size+1) [x.1,x.2.1,x.2.2.1,x.2.2.2.1,x.2.2.2.2.1,x.2.2.2.2.2.1,(au x).kind,(au x).name,(au x).n,(au x).d,.slice D m d,x.2.2.2.2.2.2.2.1,x.2.2.2.2.2.2.2.2]) (fun _ _=>False) (fun _=>aF) (fun _=>kX _ _) R0 ?round ?done ?stop;case stop=>rintro D j W Q hf;exact hf.elim
  case round=>
   rintro l s v a2 W ab hl a6 aE a7 aL S;obtain⟨bb,ab⟩:=ab;obtain⟨cs,ar,rfl⟩:=eE.1 (show v∈(valsE E (au x) [(au x).kind,(au x).name,(au x).n,(au x).d,.slice D m d]).map vS by rw[ab];simp);obtain⟨y,hy,Ve⟩:=KD (au x) aH ar;obtain⟨D1,m2,d2,rfl,ah,aP⟩:=kH.sl Ve;have aY:=aq.a y hy;obtain⟨U1,a3,yZ,G2⟩:=fP (w:=W) ((Fr.nil W).a W [y.kind,y.name,y.n,y.d,.slice D1 m2 d2] 66);have ao:=S.go yZ;clear ab ar hy Ve aP aL;gi_wp2;refine⟨aaE yZ aE _,fun U=>CkR g U Ds wr.heap.size k (wr.heap.size+1) [x.1,x.2.1,x.2.2.1,x.2.2.2.1,x.2.2.2.2.1,x.2.2.2.2.2.1,(au x).kind,(au x).name,(au x).n,(au x).d,.slice D m d,x.2.2.2.2.2.2.2.1,x.2.2.2.2.2.2.2.2]/\∀i u, [Value.int .i64 y.kind,y.name,y.n,y.d,.slice D1 m2 d2][i]?=some u->U.cell? ⟨W,i,none⟩=some u,aF.and (vU _ _ _),⟨ao,G2.nth 0⟩,?_⟩;rintro U aX aD ⟨ad,Nr⟩;have u0:U.cell? ⟨W,0,none⟩=_:=Nr 0 _ rfl;have u2:U.cell? ⟨W,2,none⟩=_:=Nr 2 _ rfl;have u3:=ad.i.1;have an:=Hd ad;have Vh:s<=U.heap.size:=by rw[aD];exact cF aE yZ.size
   clear ad Nr ao S yZ G2 aX aD;by_cases o:y.kind=5;·have h6:=aY o;have h7:decide (y.n>=(k:Int))=false:=cE pj;have Y:(y.kind==5)=true:=beq_iff_eq.2 o;gi_wp2;exact⟨aaE pE Vh _,an.out⟩
   ·have Y:(y.kind==5)=false:=cU.2 o;gi_wp2;exact⟨aaE pE Vh _,an.out⟩
  case done=>
   rintro D2 W Q S av;have hx:=S.x;have a0:=hx 12 _ rfl;have p:=z.a.go S.bl;have a1:=p.l.1;have I:=Hd2 S p;have H:=Hd2 Q av;clear S p hx Q av;by_cases ht:0<=x.2.2.2.2.2.2.2.2
   ·obtain⟨tn,aW,aT,ax⟩:=aq.u ht;have aO:=z.b.ties.len;have aJ:tn<s4.n:=pj;obtain⟨aK,A',m',c',a8,aa⟩:=I.u.rows tn aJ;obtain⟨lk,az,aw⟩:∃lk,Sl bK W M A' m' c' lk/\∀q,q∈lk->Hg k q:=by
     rcases aa with⟨rfl,rfl⟩|aa;·exact⟨[],⟨rfl,bj _,by simp[jG],pj,.inl rfl⟩,fun q hq=>by cases hq⟩
     exact⟨_,aa,ax⟩
    have Ux:=Hd2 az aw;have aR:decide ((tn:Int)>=0)=true:=cx pj;rw[aW]at a0;clear aa az aw ax aT aO aK
    gi_wp2_with (first
     |(refine Cl 165 (Qh (gf:=166) (caps:=#[.pointer (some ⟨wr,0,none⟩)]) (M:=M) (fun _ U=>Below W W U) (eR (P:=prog) func166 pk rfl) Ux.a pE (fun _ A B a b=>a.trans (b.mono a.size)) (fun _ A a=>bq a _)
         (fun j y U cs hj hr hI=>by obtain⟨rfl,-⟩:=rd_key hr;exact(Oh (aZ.block I.a.i (hI.block _ I.a.i.lt)) (Ux.u y (bh hj))).mono (fun e w' a=>⟨a.1,hI.trans (a.2.mono hI.size)⟩))) ?_
       rintro e w7 ⟨rfl,af⟩;have am:=Hd (I.a.go af);have ac:=Hd2 H.a ((af.block D2 (cR.1 H.u).1).trans H.u);clear af)
     |fail)
    refine HK.out _ _ _ ?_ ⟨k+1,D2::Ds,pj,?_,rfl,am.out.ms.add ac.u (cF ag.size ac.a) (fun h=>absurd (al.out.lt h) (by have:=ac.a;omega)),am.out.bl⟩ ?_;·rw[hA];kernel_rfl
    ·kernel_rfl
    exact O6
   ·have aR:decide (x.2.2.2.2.2.2.2.2>=0)=false:=cE ht
    gi_wp2_with (first
     |(refine⟨bO,?_⟩)
     |fail)
    refine HK.out _ _ _ ?_ ⟨k+1,D2::Ds,pj,?_,rfl,I.a.ms.add H.u (cF ag.size H.a) (fun h=>absurd (al.out.lt h) (by have:=H.a;omega)),I.a.bl⟩ ?_;·rw[hA];kernel_rfl
    ·kernel_rfl
    exact O6
 ·have aM:k=s5.n:=pj;subst aM;clear aA hk;have p:=z.a.go N;have g1:=p.l.1;have g2:=p.l.2;have g3:=p.e.1;have g4:=p.e.2;have g5:=aN g1;have g6:=aN g3;clear p ai N;gi_wp2;refine Il (B:=g.heap.size) (fun W=>Below g g W) (fun W D h Q _=>nV h Q pD) (fun W h=>?_) Ds wr HB.out.1 HB.out.2;have X:=z.a.go h;have j1:=X.l.1;have j2:=X.e.1;exact⟨.tuple #[.slice (some ⟨L,0,none⟩) s4.n s4.n,.int .i64 0],by simp[results,go_sem,j1,j2],L,rfl,X.rows,X.bl⟩
theorem Pq{M:List Nat}{r:aS}{w:World}(hr:dG w M r s1 s2 s3 s4 s5 s6 s7)(hg:ZH r)(hf:F15 r)(T:T15 r rk)(hl:∀i x,r.rounds[i]?=some x->backOk r i x)(ht:Tab w)(hM:b_ M w):
 CB 66 #[.agg (aV r s1 s2 s3 s4 s5 s6 s7).toArray] (.int .i64 0) w:=by
 refine wid ?_;obtain⟨W1,j,F1⟩:=dR ((Fr.nil w).a w (aV r s1 s2 s3 s4 s5 s6 s7) 28);refine op1 F1 ?_;intros;have g:=Hd (Po (hr.go F1.bl) hg hf T hl (tab_below ht F1.bl) (hM.le F1.bl.size));have HF:=Hd F1;clear F1 hr hg hf T hl ht hM;refine ent func66 ntmps66 ?_
 gi_wp2_with (first
  |(refine Cl 117 g.out ?_;rintro e o ⟨L,rfl,-,f⟩;have HB:=Hd (HF.out.bl.trans (f.mono HF.out.bl.size));clear f)
  |fail)
 go_ret;exact⟨rfl,HB.out⟩
end
