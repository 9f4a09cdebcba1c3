/- Lemmas and walks; no statement is proved here. -/
import Derived.Laws.EntriesVeiled
import Derived.Lib.Strings
import Derived.Test.YtefnknhjlejalaaGreatDoorM29
import Derived.Test.YtefnknhjlejalaaGreatDoorM31
set_option linter.unusedVariables false
set_option linter.unusedSimpArgs false
set_option maxRecDepth 20000
set_option maxHeartbeats 6000000
namespace Go.Proofs.YtefnknhjlejalaaGreatDoor
open Go.Proofs.Tryz
theorem afp{p:Prop}(h:p:=by
 gi_wp2_with (first|(refine⟨trivial,?_⟩))
 go_ret;exact⟨by rw[HX.out];rfl,HB.out⟩):p:=h
theorem adq{p:Prop}(h:p:=by refine ent func130 rfl ntmps130 ?_;exact afp):p:=h
theorem adS{p:Prop}(h:p:=by exact⟨⟨k+1,by omega,by go_num,HB2,Hd (by rw[<-hS.out,HST.out,HQ.out,Bool.true_and])⟩,by simp[intOf];omega⟩):p:=h
theorem aeu{p:Prop}(h:p:=by rw[<-hS.out,List.drop_of_length_le (by rw[HL.out.1];exact Nat.le_refl _),List.drop_of_length_le (by rw[HL.out.2];exact Nat.le_refl _),eqF]):p:=h
theorem aev{p:Prop}(h:p:=by
 rcases List.mem_cons.1 hq with rfl|hq;·exact HO.out.2.2.mM.1
 rw[List.mem_singleton]at hq;subst hq;exact HO.out.2.2.mM.2):p:=h
theorem aeR{p:Prop}(h:p:=by
 rcases List.mem_cons.1 hq with rfl|hq;·exact hM.1
 rw[List.mem_singleton]at hq;subst hq;exact hM.2):p:=h
theorem aeW{p:Prop}(h:p:=by
 rw[if_neg e];by_cases h0:0<=j
 ·have:¬j.toNat=i:=by omega
  simp[this]
 simp[h0]):p:=h
theorem afh{p:Prop}(h:p:=by simp[stepG,unwind,callDeferred,hmode,hd,Sem.runT_eq,hi,GStep.bare_after]):p:=h
variable {rk:Nat→Nat}{i n' m c d b nb D:Nat}{t args:Array Value}{l:List bK}{k:bK}{A:Option Addr}{M' Ds:List Nat}{P:Program}{v:Value}{F:Fence}{fn:Func}{R:Ending→World→Prop}{wr:World}{s1 s2 s3 s4 s5 s6 s7:dK}{l':List aU}
def RI(ts:List dA):Nat->Nat->List bK
 |0,_=> []
 |f+1,i=>match ts[i]? with
  |none=> []
  |some t=>t.2.flatMap fun(k:bK)=>if k.1=5 then RI ts f k.2.2.toNat else [k]
abbrev Jd(r:aS)(i:Nat):List bK:=RI r.ties 5 i
structure T15(r:aS)(rk:Nat->Nat):Prop where
 few:r.ties.length<=5
 keys:∀t,t∈r.ties->t.2.length<=4
 ref:∀i t,r.ties[i]?=some t->∀k,k∈t.2->k.1=5->∃u:Nat,k.2.2=(u:Int)/\u<r.ties.length/\rk u<rk i
 top:∀i,i<r.ties.length->rk i<5
 len:∀i,i<r.ties.length->(Jd r i).length<=32
theorem vV{α β:Type}{f g:α->List β}:∀{l:List α},(∀x,x∈l->f x=g x)->l.flatMap f=l.flatMap g
 | [],_=>rfl
 |x::l,h=>by rw[List.flatMap_cons,List.flatMap_cons,h x List.mem_cons_self,vV (fun y hy=>h y (List.mem_cons_of_mem _ hy))]
theorem KF{r:aS}{rk:Nat->Nat}(h:T15 r rk):∀(f g i:Nat),i<r.ties.length->rk i<f->rk i<g->RI r.ties f i=RI r.ties g i
 |0,_,_,_,a,_=>by omega
 |_,0,_,_,_,a=>by omega
 |f+1,g+1,i,hi,a,b=>by
  unfold RI;have ht:r.ties[i]?=some r.ties[i]:=List.getElem?_eq_getElem hi;rw[ht];apply vV;intro k hk;by_cases h5:k.1=5;·obtain⟨u,e,hu,hlt⟩:=h.ref i _ ht k hk h5;rw[if_pos h5,if_pos h5,e];exact KF h f g u hu (by omega) (by omega)
  rw[if_neg h5,if_neg h5]
theorem KH{r:aS}(h:T15 r rk){t:dA}(ht:r.ties[i]?=some t):Jd r i=t.2.flatMap fun(k:bK)=>if k.1=5 then Jd r k.2.2.toNat else [k]:=by have hi:=(List.getElem?_eq_some_iff.1 ht).1;have h0:=h.top i hi;show RI r.ties 5 i=_;rw[KF h 5 6 i hi h0 (by omega)];show(match r.ties[i]? with|none=> []|some t=>t.2.flatMap fun(k:bK)=>if k.1=5 then RI r.ties 5 k.2.2.toNat else [k])=_;rw[ht]
def zf(r:aS)(l:List bK):List bK:=l.flatMap fun(k:bK)=>if k.1=5 then Jd r k.2.2.toNat else [k]
theorem KI(r:aS){j:Nat}(h:l[j]?=some k):zf r (l.take (j+1))=zf r (l.take j)++(if k.1=5 then Jd r k.2.2.toNat else [k]):=by unfold zf;rw[List.take_add_one,h,List.flatMap_append];simp
theorem Vk(r:aS)(l:List bK)(j:Nat):(zf r (l.take j)).length<=(zf r l).length:=by
 have:zf r l=zf r (l.take j)++zf r (l.drop j):=by unfold zf;rw[<-List.flatMap_append,List.take_append_drop]
 rw[this,List.length_append];omega
section
open Go.RowKit Go.Shelf
theorem MV.drop{vs:List Value}{w:World}{b n:Nat}{S:Int->Option Value}{t e:TypeId}(h:MV vs w b n S)(ht:prog.underlying t=some (.map 3 e)){k:Int}(hk:i64 k)(ty:TypeId):
 ∃w',(Builtin.delete_ #[t,3] ty #[.map (some b),.int .i64 k]).run prog w=.ok (.tuple #[]) w'/\MV vs w' b n (fun j=>if j=k then none else S j)/\w.mapTurned w' b:=by
 obtain⟨D,h1,h2,h3⟩:=h;obtain⟨w',r1,r2,r3⟩:=h1.drop XV ht (xP hk) ty;refine⟨w',r1,⟨_,r2,h2.del _,fun j=>?_⟩,r3⟩;by_cases e:j=k;·subst e;simp only[if_true];exact⟨Go.Maps.has_del_same,fun z=>Go.Maps.atKey_del_same z⟩
 ·have e2:sQ j≠sQ k:=fun h=>e (by injection h);have h4:=h3 j;simp only[if_neg e];revert h4;rw[Go.Maps.has_del_other e2]
  cases S j with
  |none=>exact fun h4=>⟨h4.1,fun z=>(Go.Maps.atKey_del_other e2 z).trans (h4.2 z)⟩
  |some u=>exact fun h4=>⟨h4.1,h4.2.choose,h4.2.choose_spec.1,fun z=>(Go.Maps.atKey_del_other e2 z).trans (h4.2.choose_spec.2 z)⟩
def qG(O:Nat->Bool)(k:Int):Option Value:=if 0<=k/\O k.toNat=true then some (.bool true)else none
theorem Vm{O:Nat->Bool}:qG O (i:Int)=if O i=true then some (.bool true)else none:=by unfold qG;simp
theorem RJ(O:Nat->Bool)(i:Nat):(fun j=>if j=(i:Int)then some (.bool true)else qG O j)=qG (fun j=>O j||decide (j=i)):=by
 funext j;unfold qG;by_cases e:j=(i:Int);·subst e;simp
 exact aeW
theorem RN(O:Nat->Bool)(i:Nat)(h:O i=false):(fun j=>if j=(i:Int)then none else qG (fun j=>O j||decide (j=i)) j)=qG O:=by
 funext j;unfold qG;by_cases e:j=(i:Int);·subst e;simp[h]
 exact aeW
def zh(W:World)(M:List Nat)(L:Nat)(r:aS)(i:Nat):Prop:=W.frozen? ⟨L,i,none⟩=false/\∃A m c,W.cell? ⟨L,i,none⟩=some (.slice A m c)/\((m=0/\c=0)\/Sl bK W M A m c (Jd r i))
structure Ai(w W:World)(B rb ob mb cb gb lb L xb:Nat)(M:List Nat)(r:aS)(C:List Value)(A4:Option Addr)(n4 c4 n:Nat)(O:Nat->Bool):Prop where
 bl:Below w.heap.size w W
 rc:W.cell? ⟨rb,4,none⟩=some (.slice A4 n4 c4)
 vo:aZ W ob (.map (some mb))
 vc:aZ W cb (.bool false)
 vg:aZ W gb (.bool false)
 vl:aZ W lb (.slice (some ⟨L,0,none⟩) n4 n4)
 vx:aZ W xb (.func (.func 144) #[] #[.pointer (some ⟨ob,0,none⟩),.pointer (some ⟨cb,0,none⟩),.pointer (some ⟨lb,0,none⟩),.pointer (some ⟨rb,0,none⟩),.pointer (some ⟨xb,0,none⟩),.pointer (some ⟨gb,0,none⟩)])
 mv:MV [.bool false,.bool true] W mb n (qG O)
 ts:Sl dA W M A4 n4 c4 r.ties
 rows:∀i,i<n4->zh W M L r i
 ge:w.heap.size<=rb/\w.heap.size<=ob/\w.heap.size<=mb/\w.heap.size<=cb/\w.heap.size<=gb/\w.heap.size<=lb/\w.heap.size<=L/\w.heap.size<=xb
 ne:rb≠L/\ob≠L/\mb≠L/\cb≠L/\gb≠L/\lb≠L/\xb≠L
 nm:rb≠mb/\ob≠mb/\cb≠mb/\gb≠mb/\lb≠mb/\xb≠mb
 lt:rb<B/\ob<B/\mb<B/\cb<B/\gb<B/\lb<B/\L<B/\xb<B
 BW:B<=W.heap.size
 wB:w.heap.size<=B
 mM:L∈M/\mb∈M
 hM:∀q,q∈M->q<W.heap.size
section
variable {w W W':World}{B rb ob mb cb gb lb L xb:Nat}{M:List Nat}{r:aS}{C:List Value}{A4:Option Addr}{n4 c4 n:Nat}{O:Nat→Bool}
theorem zh.keep{i:Nat}(h:zh W M L r i)(k:Keeps M W W')(hl:W'.heap[L]?=W.heap[L]?):zh W' M L r i:=by obtain⟨h1,A,m,c,h2,h3⟩:=h;obtain⟨g1,g2⟩:=jB ⟨h2,h1⟩ hl;exact⟨g2,A,m,c,g1,h3.imp id (fun h=>h.keep k)⟩
theorem Ai.kept{O':Nat->Bool}(h:Ai w W B rb ob mb cb gb lb L xb M r C A4 n4 c4 n O)(k:Keeps [mb] W W')(hb:Below w.heap.size W W')(hm:MV [.bool false,.bool true] W' mb n' (qG O')):Ai w W' B rb ob mb cb gb lb L xb M r C A4 n4 c4 n' O':=by
 have kb:∀{b:Nat},b<W.heap.size->b≠mb->W'.heap[b]?=W.heap[b]?:=fun hl hne=>k.block _ hl (by simpa using hne);have kM:Keeps M W W':=k.mono (fun q hq=>by rw[List.mem_singleton]at hq;subst hq;exact h.mM.2);have hL:L<W.heap.size:=h.hM _ h.mM.1;have hrc:W'.cell? ⟨rb,4,none⟩=some (.slice A4 n4 c4):=by rw[World.cell?_of_block (w:=W) (kb (World.block_lt_of_cell? W _ h.rc) h.nm.1)];exact h.rc
 exact{ bl:=h.bl.trans hb,rc:=hrc,vo:=h.vo.block (kb h.vo.lt h.nm.2.1),vc:=h.vc.block (kb h.vc.lt h.nm.2.2.1),vg:=h.vg.block (kb h.vg.lt h.nm.2.2.2.1),vl:=h.vl.block (kb h.vl.lt h.nm.2.2.2.2.1),vx:=h.vx.block (kb h.vx.lt h.nm.2.2.2.2.2),mv:=hm,ts:=h.ts.keep kM,rows:=fun i hi=>(h.rows i hi).keep kM (kb hL (fun e=>h.ne.2.2.1 e.symm)),ge:=h.ge,ne:=h.ne,nm:=h.nm,lt:=h.lt,BW:=Nat.le_trans h.BW k.size,wB:=h.wB,mM:=h.mM,hM:=fun q hq=>Nat.lt_of_lt_of_le (h.hM q hq) k.size }
theorem Ai.go(h:Ai w W B rb ob mb cb gb lb L xb M r C A4 n4 c4 n O)(hb:Below W.heap.size W W'):Ai w W' B rb ob mb cb gb lb L xb M r C A4 n4 c4 n O:=h.kept (Keeps.of_below hb _) (hb.mono h.bl.size) (h.mv.go hb)
theorem Ai.row(h:Ai w W B rb ob mb cb gb lb L xb M r C A4 n4 c4 n O)(hs:Sl bK W M A m c (Jd r i))(hw:W.setCell ⟨L,i,none⟩ (.slice A m c)=W')(hi:i<n4):Ai w W' B rb ob mb cb gb lb L xb M r C A4 n4 c4 n O:=by
 subst hw;have k:Keeps [L] W (W.setCell ⟨L,i,none⟩ (.slice A m c)):=(Keeps.refl _ _).setCell (p:=⟨L,i,none⟩) (.inl (by simp)) _;have hb:Below w.heap.size W (W.setCell ⟨L,i,none⟩ (.slice A m c)):=(Below.refl _ W).setCell (p:=⟨L,i,none⟩) h.ge.2.2.2.2.2.2.1 _;have kb:∀{b:Nat},b<W.heap.size->b≠L->(W.setCell ⟨L,i,none⟩ (.slice A m c)).heap[b]?=W.heap[b]?:=fun hl hne=>k.block _ hl (by simpa using hne);have kM:Keeps M W (W.setCell ⟨L,i,none⟩ (.slice A m c)):=k.mono (fun q hq=>by rw[List.mem_singleton]at hq;subst hq;exact h.mM.1);refine{ bl:=h.bl.trans hb,rc:=?_,vo:=h.vo.block (kb h.vo.lt h.ne.2.1),vc:=h.vc.block (kb h.vc.lt h.ne.2.2.2.1),vg:=h.vg.block (kb h.vg.lt h.ne.2.2.2.2.1),vl:=h.vl.block (kb h.vl.lt h.ne.2.2.2.2.2.1),vx:=h.vx.block (kb h.vx.lt h.ne.2.2.2.2.2.2),mv:=h.mv.block (kb h.mv.lt h.ne.2.2.1),ts:=h.ts.keep kM,rows:=fun j hj=>?_,ge:=h.ge,ne:=h.ne,nm:=h.nm,lt:=h.lt,BW:=Nat.le_trans h.BW k.size,wB:=h.wB,mM:=h.mM,hM:=fun q hq=>Nat.lt_of_lt_of_le (h.hM q hq) k.size };·rw[World.cell?_of_block (w:=W) (kb (World.block_lt_of_cell? W _ h.rc) h.ne.1)];exact h.rc
 obtain⟨g1,A',m',c',g2,g3⟩:=h.rows j hj;by_cases e:j=i;·subst e;exact⟨by simp[go_sem,g1],A,m,c,cZ g2,.inr (hs.keep kM)⟩
 exact⟨by simp[go_sem,g1],A',m',c',by simp[go_sem,e,fun e':i=j=>e e'.symm,g2],g3.imp id (fun h=>h.keep kM)⟩
theorem Ai.far(h:Ai w W B rb ob mb cb gb lb L xb M r C A4 n4 c4 n O)(k:Keeps M W W')(hb:Below B W W'):Ai w W' B rb ob mb cb gb lb L xb M r C A4 n4 c4 n O:=by
 have hrc:W'.cell? ⟨rb,4,none⟩=some (.slice A4 n4 c4):=by rw[World.cell?_of_block (w:=W) (hb.block _ h.lt.1)];exact h.rc
 exact{ bl:=h.bl.trans (hb.mono h.wB),rc:=hrc,vo:=h.vo.block (hb.block _ h.lt.2.1),vc:=h.vc.block (hb.block _ h.lt.2.2.2.1),vg:=h.vg.block (hb.block _ h.lt.2.2.2.2.1),vl:=h.vl.block (hb.block _ h.lt.2.2.2.2.2.1),vx:=h.vx.block (hb.block _ h.lt.2.2.2.2.2.2.2),mv:=h.mv.block (hb.block _ h.lt.2.2.1),ts:=h.ts.keep k,rows:=fun i hi=>(h.rows i hi).keep k (hb.block _ h.lt.2.2.2.2.2.2.1),ge:=h.ge,ne:=h.ne,nm:=h.nm,lt:=h.lt,BW:=Nat.le_trans h.BW k.size,wB:=h.wB,mM:=h.mM,hM:=fun q hq=>Nat.lt_of_lt_of_le (h.hM q hq) k.size }
theorem zh.lessM(h:zh W M L r i)(hs:∀q,q∈M'->q∈M):zh W M' L r i:=by obtain⟨h1,A,m,c,h2,h3⟩:=h;exact⟨h1,A,m,c,h2,h3.imp id (fun h=>h.less hs)⟩
theorem Ai.lessM{M':List Nat}(h:Ai w W B rb ob mb cb gb lb L xb M r C A4 n4 c4 n O)(hs:∀q,q∈M'->q∈M)(h1:L∈M'/\mb∈M'):Ai w W B rb ob mb cb gb lb L xb M' r C A4 n4 c4 n O:={ h with ts:=h.ts.less hs,rows:=fun i hi=>(h.rows i hi).lessM hs,mM:=h1,hM:=fun q hq=>h.hM q (hs q hq) }
theorem Ai.abA{g:Nat}(h:Ai w W B rb ob mb cb gb lb L xb M r C A4 n4 c4 n O)(hg:W.heap.size<=g)(k:Keeps M W W')(hb:Below B W W')(hl:g<W'.heap.size):Ai w W' B rb ob mb cb gb lb L xb (g::M) r C A4 n4 c4 n O:=by
 have h2:=h.far k hb;have kg:Keeps (g::M) W W':=k.mono (fun q hq=>List.mem_cons_of_mem _ hq);refine{ h2 with ts:=(h.ts.more hg).keep kg,rows:=fun i hi=>?_,mM:=⟨List.mem_cons_of_mem _ h.mM.1,List.mem_cons_of_mem _ h.mM.2⟩,hM:=fun q hq=>?_ };·obtain⟨g1,A,m,c,g2,g3⟩:=h.rows i hi;obtain⟨e1,e2⟩:=jB ⟨g2,g1⟩ (hb.block _ h.lt.2.2.2.2.2.2.1);exact⟨e2,A,m,c,e1,g3.imp id (fun h=>(h.more hg).keep kg)⟩
 rcases List.mem_cons.1 hq with rfl|hq;·exact hl
 exact h2.hM q hq
end
theorem Je{fr:Frame}{cs:List Frame}{w w':World}{d:Deferred}{ds:List Deferred}{b:Builtin}{at_:Array TypeId}{ty:TypeId}{co:Array Bool}(hm:fr.mode≠.run)(hd:fr.defers=d::ds)(ht:d.target=.builtin b at_ ty co)
 (hi:(invoke d.target d.args).run P w=.ok (.value v) w'):step P (lone fr cs w)=.next (lone { fr with defers:=ds } cs w'):=by
 obtain⟨t,a⟩:=d;simp only at ht hi;subst ht;refine step_lone_go ?_
 cases hmode:fr.mode with
 |run=>exact absurd hmode hm
 |returning=>exact afh
 |panicking chain=>exact afh
def zi(P:Program)(fn:Func)(R:Ending->World->Prop):Exit->Act->World->Prop
 | .normal,a,w| .ret,a,w=>(a.defers= []/\∃v,(results fn a.tmps).run P w=.ok v w/\R (.returned v) w)\/∃d b at_ ty co u w1 v,a.defers= [d]/\d.target=.builtin b at_ ty co/\(invoke d.target d.args).run P w=.ok (.value u) w1/\(results fn a.tmps).run P w1=.ok v w1/\R (.returned v) w1
 |_,_,_=>False
theorem Qm{n:Nat}{a:Act}{w:World}(h:zi P fn R .ret a w)(fr:Frame)(cs:List Frame)(hu:fr.mode=.returning)(hd:fr.defers=a.defers)(ht:fr.tmps=a.tmps)(hf:P.funcs[fr.fn]?=some fn)(hk:fr.kind=.normal)(hF:F.fn fr.fn)
 (hroom:F.room (cs.length+1+n)):∃e w' fr',R e w'/\ComesIn (Machine.fenced P F) P (lone fr cs w) (lone fr' cs w') e/\fr'.fn=fr.fn/\fr'.leaving P w' e:=by
 rcases h with⟨h0,v,hr,hR⟩|⟨d,b,at_,ty,co,u,w1,v,h0,htg,hi,hr,hR⟩;·exact leaves_stepsIn (tmps:=a.tmps) [] .returning w fr cs hu (hd.trans h0) ht hf hk hF hroom ⟨v,hr,hR⟩
 ·have hd1:=hd.trans h0;have h1:=Je (cs:=cs) (by rw[hu];simp) hd1 htg hi;have i1:(lone fr cs w).fenced P F:=fenced_out hF hroom (by rw[hu];simp) hd1 (fun g hg=>by rw[htg]at hg;simp[Target.leads]at hg);obtain⟨e',w'',fr',hR',hs',hfn',hl'⟩:=leaves_stepsIn (tmps:=a.tmps) (R:=R) (fn:=fn) [] .returning w1 { fr with defers:= [] } cs hu rfl ht hf hk hF hroom ⟨v,hr,hR⟩;exact⟨e',w'',fr',hR',ComesIn.of_steps (.one i1 h1) hs',hfn',hl'⟩
theorem Aj{n:Nat}{f:FuncId}{c:Code}{w:World}(hf:P.funcs[f]?=some fn)(hb:fn.body=some c)(hF:F.fn f)
 (h:c.wpIn F n P (zi P fn R) { tmps:=args++Array.replicate (fn.ntmps-args.size) undef,defers:= [] } w) (hro:F.round=none:=by rfl):CallsIn F n P f args w R:=by
 refine⟨hF,fun cs hr=>?_⟩;let b:Frame:={ (default:Frame)with fn:=f,kind:=.normal,roundOf:=none };have henter:Frame.enter P f args .normal=b.atR { tmps:=args++Array.replicate (fn.ntmps-args.size) undef,defers:= [] } [.code c]:=by simp[Frame.enter,Frame.atR,hf,hb,b]
 obtain⟨e,a',w',hq,harr⟩:=h b [] cs hro.symm hF hr;rw[<-henter]at harr
 cases e with
 |normal=>obtain⟨e',w'',fr',hR,hs,hfn,hl⟩:=Qm (F:=F) (n:=n) hq { b.atR a' []with mode:=.returning } cs rfl rfl rfl hf rfl hF hr;exact⟨e',w'',fr',hR,ComesIn.of_steps (StepsIn.trans harr (.one (fenced_calm (fr:=b.atR a' []) hF hr rfl) (stepR_end rfl))) hs,hfn,hl⟩
 |ret=>obtain⟨todo,hs₀⟩:=harr.1 rfl;obtain⟨e',w'',fr',hR,hs,hfn,hl⟩:=Qm (F:=F) (n:=n) hq { b.atR a' todo with mode:=.returning } cs rfl rfl rfl hf rfl hF hr;exact⟨e',w'',fr',hR,ComesIn.of_steps hs₀ hs,hfn,hl⟩
 |panic chain=>exact hq.elim
 |exit id=>exact hq.elim
 |goto l=>exact hq.elim
 |outgrown=>exact hq.elim
theorem aaE{n:Nat}{f k:Nat}{c:Code}{a':Array Value}{w:World}(hf:P.funcs[f]?=some fn)(hb:fn.body=some c)(hn:fn.ntmps=k)
 (h:c.wpIn F n P (zi P fn R) ⟨a', []⟩ w) (hF:F.fn f:=by exact trivial) (ha:args++Array.replicate (k-args.size) undef=a':=by exact ac_) (hro:F.round=none:=by exact rfl):CallsIn F n P f args w R:=
 Aj hf hb hF (by rw[hn,ha];exact h) hro
attribute [local go_sem] Oper.semAt_some
section
variable {w W W':World}{B rb ob mb cb gb lb L xb:Nat}{M:List Nat}{r:aS}{C:List Value}{A4:Option Addr}{n4 c4 n:Nat}{O:Nat→Bool}
structure Ue(w W wr:World)(B rb ob mb cb gb lb L xb:Nat)(M:List Nat)(r:aS)(C:List Value)(A4:Option Addr)(n4 c4 nb:Nat)(O:Nat->Bool)(v:Value)(l:List bK):Prop where
 x:∃n,n<=nb/\Ai w wr B rb ob mb cb gb lb L xb (bP v++M) r C A4 n4 c4 n O
 own:bD bK 147 wr M W.heap.size v l.length l
 kp:Keeps [L,mb] W wr
 BW:B<=W.heap.size
 hM:∀q,q∈M->q<W.heap.size
theorem Ue.app{ys:List bK}(h:Ue w W wr B rb ob mb cb gb lb L xb M r C A4 n4 c4 nb O v l)(hy:Sl bK wr (bP v++M) A m c ys)(hn:l.length+m<=100000):
 ∃v' w',(Builtin.append_ #[148,148] 148 #[v,.slice A m c]).run prog wr=.ok v' w'/\Ue w W w' B rb ob mb cb gb lb L xb M r C A4 n4 c4 nb O v' (l++ys):=by
 obtain⟨i,z,i1,i2,i3,i4,i5⟩:=qy;obtain⟨n,hnn,x⟩:=h.x;obtain⟨v',w',r1,r2,r3,r4⟩:=h.own.uy (t:=148) (ty:=148) h.kp.size underlying148 i1 i2 i3 i4 hy (by have:=Nat.mul_le_mul hn i5;omega) (by omega);have hl:(l++ys).length=l.length+m:=by rw[List.length_append,hy.len]
 have k1:Keeps (bP v++M) wr w':=(Keeps.refl _ wr).grown r3 (fun k hk=>.inl (List.mem_append_left _ (bJ.2 hk)));have b1:Below B wr w':=(Below.refl B wr).grown r3 x.BW (fun k hk=>Nat.le_trans h.BW (h.own.lt hk).1);refine⟨v',w',r1,⟨n,hnn,?_⟩,by rw[hl];exact r2,h.kp.grown r3 (fun k hk=>.inr (h.own.lt hk).1),h.BW,h.hM⟩;rcases r4 with e|e
 ·have:bP v'=bP v:=by unfold bP;rw[e]
  rw[this];exact x.far k1 b1
 ·have hv:bP v'= [wr.heap.size]:=by unfold bP;rw[e];rfl
  rw[hv];refine(x.abA (Nat.le_refl _) k1 b1 (r2.lt e).2).lessM (fun q hq=>?_) ⟨List.mem_append_right _ ?_,List.mem_append_right _ ?_⟩
  ·rcases List.mem_append.1 hq with hq|hq;·rw[List.mem_singleton]at hq;subst hq;exact List.mem_cons_self
   exact List.mem_cons_of_mem _ (List.mem_append_right _ hq)
  ·have h1:=x.mM.1;rcases List.mem_append.1 h1 with h1|h1;·have:=(h.own.lt (bJ.1 h1)).1;have:=x.lt.2.2.2.2.2.2.1;have:=h.BW;omega
   exact h1
  have h1:=x.mM.2;rcases List.mem_append.1 h1 with h1|h1;·have:=(h.own.lt (bJ.1 h1)).1;have:=x.lt.2.2.1;have:=h.BW;omega
  exact h1
theorem Ue.go{wr wz:World}{nb:Nat}{v:Value}{l:List bK}(h:Ue w W wr B rb ob mb cb gb lb L xb M r C A4 n4 c4 nb O v l)(hb:Below wr.heap.size wr wz):Ue w W wz B rb ob mb cb gb lb L xb M r C A4 n4 c4 nb O v l:=by obtain⟨n,hn,x⟩:=h.x;exact⟨⟨n,hn,x.go hb⟩,h.own.go hb,h.kp.trans (Keeps.of_below hb _),h.BW,h.hM⟩
theorem Ue.call{wz:World}{nb':Nat}(h:Ue w W wr B rb ob mb cb gb lb L xb M r C A4 n4 c4 nb O v l)(hM:L∈M/\mb∈M)(x:Ai w wz B rb ob mb cb gb lb L xb (bP v++M) r C A4 n4 c4 n' O)(hn:n'<=nb')(k:Keeps [L,mb] wr wz):Ue w W wz B rb ob mb cb gb lb L xb M r C A4 n4 c4 nb' O v l:=⟨⟨n',hn,x⟩,h.own.apart k (fun q hq=>by
   exact aeR) (fun q hq e=>by
   have h1:=(h.own.lt e).1;have h2:=h.hM q (by exact aeR);omega),h.kp.trans k,h.BW,h.hM⟩
end
theorem Yi{w:World}{M:List Nat}(h0:w.cell? ⟨b,0,none⟩=some (.int .i64 k.1))(h1:w.cell? ⟨b,1,none⟩=some (.string k.2.1))(h2:w.cell? ⟨b,2,none⟩=some (.int .i64 k.2.2))(i1:i64 k.1)(i2:i64 k.2.2)(hb:b∉M):Sl bK w M (some ⟨b,0,none⟩) 1 1 [k]:=by
 refine⟨rfl,Nat.le_refl _,by simp[jG],by omega,.inr ⟨b,0,rfl,fun j x hx=>?_⟩⟩
 match j,hx with
 |0,hx=>
  cases hx;refine⟨[.int .i64 k.1,.string k.2.1,.int .i64 k.2.2],⟨[_],_,rfl,⟨rfl,i1⟩, [_],_,rfl,rfl,⟨rfl,i2⟩⟩,hb,fun q u hu=>?_⟩
  match q,hu with
  |0,hu=>cases hu;exact h0
  |1,hu=>cases hu;exact h1
  |2,hu=>cases hu;exact h2
def XpC(r:aS)(rk:Nat->Nat)(i:Nat):Prop:=∀{w W:World}{B rb ob mb cb gb lb L xb:Nat}{M:List Nat}{C:List Value}{A4:Option Addr}{n4 c4 n:Nat}{O:Nat->Bool},Ai w W B rb ob mb cb gb lb L xb M r C A4 n4 c4 n O->(∀u,O u=true->rk i<rk u)->i<n4->n+5^(rk i+1)<=900000->Calls prog 144 #[.int .i64 (i:Int),.pointer (some ⟨ob,0,none⟩),.pointer (some ⟨cb,0,none⟩),.pointer (some ⟨lb,0,none⟩),.pointer (some ⟨rb,0,none⟩),.pointer (some ⟨xb,0,none⟩),.pointer (some ⟨gb,0,none⟩)] W fun e W'=>∃A m c n',e=.returned (.slice A m c)/\Sl bK W' M A m c (Jd r i)/\Ai w W' B rb ob mb cb gb lb L xb M r C A4 n4 c4 n' O/\n'<=n+5^(rk i+1)/\Keeps [L,mb] W W'
theorem Ob{r:aS}(T:T15 r rk):∀(i:Nat),(∀u,u<r.ties.length->rk u<rk i->XpC r rk u)->XpC r rk i:=by
 intro i ih w W B rb ob mb cb gb lb L xb M C A4 n4 c4 n O X hO hi hn;refine wid ?_;have hlen:=X.ts.len;have hR5:0<5^rk i:=Nat.pos_of_ne_zero (by simp);have hn5:=hn;rw[Nat.pow_succ]at hn5;have hn4:n4<=5:=by have:=T.few;omega
 have hOi:O i=false:=by
  cases e:O i with
  |false=>rfl
  |true=>have:=hO i e;omega
 have hl:=X.mv.look (k:=(i:Int)) underlying186 (show(zeroValue 4).run prog W=.ok (.bool false) W by kernel_rfl) (by simp) (by unfold i64;omega);rw[Vm,hOi]at hl;simp only[Bool.false_eq_true,if_false,Option.getD_none]at hl;obtain⟨f0,A,m,c,hrow,hm⟩:=X.rows i hi;have o1:=X.vo.1;have l1:=X.vl.1;have o2:=X.vc.1;by_cases hm0:m=0
 ·subst hm0;obtain⟨t,htk⟩:=dW r.ties i (by omega);have hstep:=KH T htk;have hlim:=T.len i (by omega);have hkey:=T.keys t (List.mem_of_getElem? htk);obtain⟨W1,r1,mv1,mt1⟩:=X.mv.store (k:=(i:Int)) (v:=.bool true) underlying186 (by unfold i64;omega) (by simp) (by omega);rw[RJ]at mv1;have k1:Keeps [mb] W W1:=(Keeps.refl _ W).grown mt1.grown (fun q hq=>.inl (by cases hq;exact List.mem_cons_self));have X1:=X.kept k1 ((Below.refl _ W).grown mt1.grown X.bl.size (fun q hq=>by cases hq;exact X.ge.2.2.1)) mv1;obtain⟨b,o,D,md,dd,rfl,⟨t0,t1⟩,hsk⟩:=X1.ts.n_ htk;have hmd:=hsk.len;have rc1:=X1.rc;have o3:=X1.vo.1;have L0:Ue w W1 W1 B rb ob mb cb gb lb L xb M r C (some ⟨b,o,none⟩) n4 c4 (n+1) (fun j=>O j||decide (j=i)) (.slice none 0 0) []:=⟨⟨n+1,Nat.le_refl _,X1⟩,bD.nil _ _ _,Keeps.refl _ _,X1.BW,X1.hM⟩;have H:=Iw L0 htk hsk hstep hlim k1 hkey;have HO:=fB hO hOi X;clear L0 hsk hstep hlim k1 X mv1 mt1 hm X1 hO hn;refine aaE func144 rfl ntmps144 ?_;gi_wp2;gi_loopw[9,38] (fun v9 i9 wr=>∃j:Nat,j<=md/\i9=.int .i64 j/\Hid (Ue w W1 wr B rb ob mb cb gb lb L xb M r C (some ⟨b,o,none⟩) n4 c4 (n+1+j*5^rk i) (fun j=>O j||decide (j=i)) v9 (zf r (t.2.take j)))) (fun _ i9 _=>md-(intOf i9).toNat);case atStart=>exact⟨0,Nat.zero_le _,rfl,Hd (by simpa[zf]using H.out.1)⟩
  case round=>
   obtain⟨j,hj,rfl,hL⟩:=hrel;by_cases hjm:j<md
   ·obtain⟨k,hk⟩:=dW t.2 j (by omega);have Yt:=H.out.2.2.1.keep (hL.out.kp.mono (M':=M) (fun q hq=>by
     exact aev))
    obtain⟨b2,o2,es,rfl,hes,hrw⟩:=Yt.get hk;obtain⟨rfl,ki1,ki2⟩:=rd_key hes;have h0:wr.cell? ⟨b2,o2+j*3,none⟩=some (.int .i64 k.1):=hrw.2 0 _ rfl;have h1:wr.cell? ⟨b2,o2+j*3+1,none⟩=some (.string k.2.1):=hrw.2 1 _ rfl;have h2:wr.cell? ⟨b2,o2+j*3+2,none⟩=some (.int .i64 k.2.2):=hrw.2 2 _ rfl;obtain⟨V1,hV1,dD,G1⟩:=fP (w:=wr) ((Fr.nil wr).a wr.heap.size [.int .i64 k.1,.string k.2.1,.int .i64 k.2.2] 147);have L1:=hL.out.go dD;have hxt:=KI r hk;have hle:=Vk r t.2 (j+1);have hst:Jd r i=zf r t.2:=H.out.2.2.2.1;rw[<-hst]at hle;by_cases h5:k.1=5
    ·obtain⟨u,hu,hul,aaF⟩:=T.ref i t H.out.2.1 k (List.mem_of_getElem? hk) h5;rw[if_pos h5,hu,Int.toNat_natCast]at hxt;obtain⟨nn,hnn,x1⟩:=L1.x;have EI:5^(rk u+1)<=5^rk i:=Nat.pow_le_pow_right (by omega) (by omega);have hj3:(j+1)*5^rk i<=4*5^rk i:=Nat.mul_le_mul_right _ (by have:=H.out.2.2.2.2.2.2;omega);rw[Nat.add_mul,Nat.one_mul]at hj3;have hc:=ih u hul aaF x1 (fun q hq=>by
      simp only[Bool.or_eq_true,decide_eq_true_eq]at hq;rcases hq with hq|rfl;·have:=HO.out.1 q hq;omega
      exact aaF) (by omega) (by omega)
     have HC:=h_ hc L1 (show nn+5^(rk u+1)<=n+1+(j+1)*5^rk i by rw[Nat.add_mul,Nat.one_mul];omega) hxt;have vx:=x1.vx.1;have hlm:=T.len u hul;have HU:=Hd2 hlm (show(zf r (t.2.take (j+1))).length<=32 by have:=H.out.2.2.2.2.1;omega);rw[h5]at hV1;rw[hu]at hV1;have g0:=G1.aQ 0 0;have g2:=G1.aQ 0 2;rw[h5]at g0 h0;rw[hu]at g2 h2;clear hc L1 x1 hxt EI hj3 hnn hk hes hrw Yt hle hst G1 dD hlm
     gi_wp2_with (first
      |(gi_at_builtin;refine wpListIn_plain rfl fun K hK'=>?_;refine aI _ _ _ rfl rfl rfl HR.out (hK' _ _ ?_);clear hK' K)
      |(refine Cl 144 HC.out.1 ?_;rintro e w4 ⟨A5,m5,c5,n5,rfl,hs5,x5,hn5,k5⟩;have XD:=hs5.len;obtain⟨v6,w6,r6,L6⟩:=(HC.out.2.1.call (nb':=n+1+(j+1)*5^rk i) HO.out.2.2.mM x5 (Nat.le_trans hn5 HC.out.2.2.1) k5).app hs5 (by
         have h1:=HU.out.1;have h2:=HU.out.2;have h3:=HC.out.2.2.2;rw[h3,List.length_append]at h2;omega)
        rw[<-HC.out.2.2.2]at L6;have HR:=Hd r6;have HL6:=Hd L6;clear r6 L6 hs5 x5 hn5 k5)
      |fail)
     exact⟨⟨j+1,by omega,by go_num,HL6⟩,by simp[intOf];omega⟩
    rw[if_neg h5]at hxt;obtain⟨V2,hV2,oL,G2⟩:=fP (w:=V1) ((Fr.nil V1).a V1.heap.size [.int .i64 k.1,.string k.2.1,.int .i64 k.2.2] 147);have L2:=L1.go oL;obtain⟨nn,hnn,x1⟩:=L1.x;obtain⟨v6,w6,r6,L6⟩:=L2.app (Yi (k:=k) (G2.aQ 0 0) (G2.aQ 0 1) (G2.aQ 0 2) ki1 ki2 (fun hq=>by have:=x1.hM _ hq;omega)) (by have:=H.out.2.2.2.2.1;rw[hxt,List.length_append]at hle;simp at hle;omega);rw[<-hxt]at L6;obtain⟨nk,hnk,xk⟩:=L6.x;have HL6:=Hd ({ L6 with x:=⟨nk,Nat.le_trans hnk (by rw[Nat.add_mul,Nat.one_mul];omega),xk⟩ }:Ue w W1 w6 B rb ob mb cb gb lb L xb M r C (some ⟨b,o,none⟩) n4 c4 (n+1+(j+1)*5^rk i) (fun j=>O j||decide (j=i)) v6 (zf r (t.2.take (j+1))));have HR:=Hd r6;refine op1 G1 ?_;intros;clear L1 L2 L6 x1 xk hnk hnn r6 hxt hle hst hk hes hrw Yt G1 G2 dD oL
    gi_wp2_with (first
     |(gi_at_builtin;refine wpListIn_plain rfl fun K hK'=>?_;refine aI _ _ _ rfl rfl rfl HR.out (hK' _ _ ?_);clear hK' K)
     |fail)
    exact⟨⟨j+1,by omega,by go_num,HL6⟩,by simp[intOf];omega⟩
   ·have ej:j=md:=by omega
    clear hj hjm;subst ej;obtain⟨nn,hnn,x1⟩:=hL.out.x;have hfull:zf r (t.2.take j)=Jd r i:=by rw[H.out.2.2.2.1,List.take_of_length_le (by omega)];rfl
    have hown:=hL.out.own;rw[hfull]at hown;obtain⟨Av,cv,rfl⟩:=hown.shape;obtain⟨_,_,e9,hs9⟩:=hown.sl (by have:=H.out.2.2.2.2.1;omega) (fun q hq=>hL.out.hM q hq);cases e9;have l9:¬((32:Int)<((Jd r i).length:Nat)):=by have:=H.out.2.2.2.2.1;omega
    obtain⟨W5,CZ⟩:=aC (wr.setCell ⟨L,i,none⟩ (.slice Av (Jd r i).length cv));have x2:=x1.lessM (M':=M) (fun q hq=>List.mem_append_right _ hq) HO.out.2.2.mM;have x5:=x2.row hs9 CZ hi;obtain⟨W6,r6,mv6,mt6⟩:=x5.mv.drop (k:=(i:Int)) underlying186 (by unfold i64;omega) 0;rw[RN O i HO.out.2.1]at mv6;have vl:=x2.vl.1;have gv:=x2.vg.1;obtain⟨f9,A9,m9,c9,q9,-⟩:=x2.rows i hi;gi_wp2;have k5:Keeps [L,mb] wr W5:=by rw[<-CZ];exact(Keeps.refl _ _).setCell (p:=⟨L,i,none⟩) (.inl (by simp)) _
    have k6:Keeps [mb] W5 W6:=(Keeps.refl _ W5).grown mt6.grown (fun q hq=>.inl (by cases hq;exact List.mem_cons_self));have k7:Keeps [L,mb] wr W6:=k5.trans (k6.mono (fun q hq=>List.mem_cons_of_mem _ hq));have hML:∀q,q∈ [L,mb]->q∈M:=fun q hq=>by exact aev
    have x6:=x5.kept k6 ((Below.refl _ W5).grown mt6.grown x5.bl.size (fun q hq=>by cases hq;exact x5.ge.2.2.1)) mv6;have h4:=H.out.2.2.2.2.2.2;have hb4:j*5^rk i<=4*5^rk i:=Nat.mul_le_mul_right _ (by omega);exact .inr ⟨_,.delete,_,_,_,.tuple #[],W6,.slice Av (Jd r i).length cv,rfl,rfl,by simp[invoke,builtin,r6,Result.andThen],by simp[results,go_sem],Av,_,cv,rfl,hs9.keep (k7.mono hML),nn,x6,by rw[Nat.pow_succ];omega,((H.out.2.2.2.2.2.1.mono (fun q hq=>List.mem_cons_of_mem _ hq)).trans hL.out.kp).trans k7⟩
 have HX:=Hd2 X (hm.resolve_left (fun h=>hm0 h.1));have hmp:0<m:=by omega
 clear hm;refine aaE func144 rfl ntmps144 ?_;gi_wp2;exact .inl ⟨rfl,.slice A m c,by simp[results,go_sem],A,m,c,n,rfl,HX.out.2,HX.out.1,Nat.le_add_right _ _,Keeps.refl _ _⟩
theorem Dt{r:aS}{rk:Nat->Nat}(T:T15 r rk):∀(N i:Nat),rk i<N->XpC r rk i
 |0,_,h=>by omega
 |N+1,i,h=>Ob T i (fun u _ hu=>Dt T N u (by omega))
theorem Oc:(prog.info? 148).map (fun i=>(i.zero,i.size,i.bytes))=some (some (.slice none 0 0),1,24):=by kernel_rfl
theorem RP(N:Nat):madeCells (Value.slice none 0 0).cells (N*1)=(Array.replicate N (Value.slice none 0 0)):=by exact aeC
theorem Yj(N:Nat)(hN:N<=1000000)(w:World):(Instr.makeSlice 108 (.int .i64 (N:Int)) (.int .i64 (N:Int))).run prog w=.ok (.slice (some ⟨w.heap.size,0,none⟩) N N) (w.alloc (.cells (Array.replicate N (Value.slice none 0 0)) 148)):=by obtain⟨i0,hi,hz0,hz1,hz2⟩:=info_parts Oc;have:=run_make (P:=prog) w 108 148 i0 (.slice none 0 0) underlying108 hi hz0 .i64 .i64 (N:Int) (N:Int) (by omega) (Int.le_refl _) (by rw[hz2];omega) (by omega);rw[this,hz1];simp only[Int.toNat_natCast,RP]
theorem Yk(w:World):(Instr.makeMap 186 none).run prog w=.ok (.map (some w.heap.size)) (w.alloc (.map #[] 0)):=by rfl
def Vo(W:World)(M:List Nat)(L n:Nat)(r:aS):Prop:=∀i,i<n->zh W M L r i
theorem Yl{w:World}(v:Value)(t:TypeId)(hb:b=w.heap.size):aZ (w.alloc (.cells #[v] t)) b v:=by exact ad5
theorem Du{M:List Nat}{r:aS}{w:World}(hr:dG w M r s1 s2 s3 s4 s5 s6 s7)(T:T15 r rk)(hM:b_ M w):
 Calls prog 99 #[.agg (aV r s1 s2 s3 s4 s5 s6 s7).toArray] w fun e w'=>∃L,e=.returned (.tuple #[.slice (some ⟨L,0,none⟩) s4.n s4.n,.int .i64 0])/\Vo w' M L s4.n r/\w.heap.size<=L/\Below w.heap.size w w':=by
 refine wid ?_;obtain⟨A4,n4,c4⟩:=s4;have hlen:r.ties.length=n4:=hr.ties.len;have hn5:n4<=5:=by have:=T.few;omega
 have mm:=Yk;have mk:=Yj n4 (by omega);obtain⟨W1,hW1,F1⟩:=nam (((Fr.nil w).a w.heap.size [.string r.name,.slice s1.A s1.n s1.c,.slice s2.A s2.n s2.c,.slice s3.A s3.n s3.c,.slice A4 n4 c4,.slice s5.A s5.n s5.c,.slice s6.A s6.n s6.c,.slice s7.A s7.n s7.c,.int .i64 r.best] 52).a (w.heap.size+1) [.slice none 0 0] 108);obtain⟨W3,hW3⟩:=aC ((((W1.alloc (.map #[] 0)).alloc (.cells #[.map (some W1.heap.size)] 186)).alloc (.cells #[.bool false] 4)).alloc (.cells #[.bool false] 4));have bm:Below W1.heap.size W1 (W1.alloc (.map #[] 0)):=by exact bel
 have F3:Fr w W3 ([]++ [(w.heap.size, [.string r.name,.slice s1.A s1.n s1.c,.slice s2.A s2.n s2.c,.slice s3.A s3.n s3.c,.slice A4 n4 c4,.slice s5.A s5.n s5.c,.slice s6.A s6.n s6.c,.slice s7.A s7.n s7.c,.int .i64 r.best])]++ [(w.heap.size+1, [.slice none 0 0])]++ [(W1.heap.size+1, [.map (some W1.heap.size)])]++ [(W1.heap.size+1+1, [.bool false])]++ [(W1.heap.size+1+1+1, [.bool false])]):=by rw[<-hW3];exact(((F1.go bm).a (W1.heap.size+1) _ _).a (W1.heap.size+1+1) _ _).a (W1.heap.size+1+1+1) _ _
 have z3:W3.heap.size=W1.heap.size+4:=by rw[<-hW3];simp
 have yY:Below (W1.alloc (.map #[] 0)).heap.size (W1.alloc (.map #[] 0)) W3:=by rw[<-hW3];exact bel
 obtain⟨W4,I4⟩:=aC (W3.alloc (.cells (Array.replicate n4 (Value.slice none 0 0)) 148));have b4:Below W3.heap.size W3 W4:=by rw[<-I4];exact bel
 obtain⟨W5,CZ⟩:=aC (W4.setCell ⟨w.heap.size+1,0,none⟩ (.slice (some ⟨W3.heap.size,0,none⟩) n4 n4));have k5:KB (w.heap.size+1) W4 W5:=by rw[<-CZ];exact KB.put (v:=.slice none 0 0) ⟨(F3.go b4).aQ 1 0,(F3.go b4).zN 1 0⟩
 obtain⟨W6,X0⟩:=aC (W5.alloc (.cells #[.func (.func 144) #[] #[.pointer (some ⟨W1.heap.size+1,0,none⟩),.pointer (some ⟨W1.heap.size+1+1,0,none⟩),.pointer (some ⟨w.heap.size+1,0,none⟩),.pointer (some ⟨w.heap.size,0,none⟩),.pointer (some ⟨W5.heap.size,0,none⟩),.pointer (some ⟨W1.heap.size+1+1+1,0,none⟩)]] 187));have b6:Below W5.heap.size W5 W6:=by rw[<-X0];exact bel
 have s4z:W4.heap.size=W3.heap.size+1:=by rw[<-I4];simp
 have s6z:W6.heap.size=W5.heap.size+1:=by rw[<-X0];simp
 have s1z:=F1.mJ 1;have s3z:=F3.mJ 4;have s5z:=k5.k.size;have hblk:∀b,b<W4.heap.size->b≠w.heap.size+1->W6.heap[b]?=W4.heap[b]?:=fun b hb hne=>(b6.block b (Nat.lt_of_lt_of_le hb s5z)).trans (k5.k.block b hb (by simpa using hne));have F4:=F3.go b4;have bl6:Below w.heap.size w W6:=(F4.bl.trans (k5.bl.mono (by omega))).trans (b6.mono (by omega));have vl5:aZ W5 (w.heap.size+1) (.slice (some ⟨W3.heap.size,0,none⟩) n4 n4):=by rw[<-CZ];exact aZ.put (v:=.slice none 0 0) ⟨F4.aQ 1 0,F4.zN 1 0⟩
 have mv4:MV [.bool false,.bool true] W4 W1.heap.size 0 (qG fun _=>false):=by have:=MV.new [.bool false,.bool true] W1;rw[show qG (fun _=>false)=fun _=>none from funext fun k=>by simp[qG]];exact(this.go yY).go b4
 have X6:Ai w W6 W6.heap.size w.heap.size (W1.heap.size+1) W1.heap.size (W1.heap.size+1+1) (W1.heap.size+1+1+1) (w.heap.size+1) W3.heap.size W5.heap.size (W3.heap.size::W1.heap.size::M) r [] A4 n4 c4 0 (fun _=>false):=by
  have vx:=Yl (w:=W5) (b:=W5.heap.size) (.func (.func 144) #[] #[.pointer (some ⟨W1.heap.size+1,0,none⟩),.pointer (some ⟨W1.heap.size+1+1,0,none⟩),.pointer (some ⟨w.heap.size+1,0,none⟩),.pointer (some ⟨w.heap.size,0,none⟩),.pointer (some ⟨W5.heap.size,0,none⟩),.pointer (some ⟨W1.heap.size+1+1+1,0,none⟩)]) 187 rfl;rw[X0]at vx;refine{ bl:=bl6,rc:=?_,vo:=aZ.block ⟨F4.aQ 2 0,F4.zN 2 0⟩ (hblk _ (by omega) (by omega)),vc:=aZ.block ⟨F4.aQ 3 0,F4.zN 3 0⟩ (hblk _ (by omega) (by omega)),vg:=aZ.block ⟨F4.aQ 4 0,F4.zN 4 0⟩ (hblk _ (by omega) (by omega)),vl:=vl5.block (b6.block _ vl5.lt),vx:=vx,mv:=mv4.block (hblk _ (by omega) (by omega)),ts:=?_,rows:=fun i hi=>?_,ge:=by omega,ne:=by omega,nm:=by omega,lt:=by omega,BW:=Nat.le_refl _,wB:=by omega,mM:=⟨List.mem_cons_self,List.mem_cons_of_mem _ List.mem_cons_self⟩,hM:=fun q hq=>?_ };·rw[World.cell?_of_block (w:=W4) (hblk _ (by show w.heap.size<_;omega) (by show w.heap.size≠_;omega))];exact F4.aQ 0 4
  ·exact((hr.ties.more (b:=W1.heap.size) (by omega)).more (b:=W3.heap.size) (by omega)).keep (Keeps.of_below bl6 _)
  ·have hn:W4.heap[W3.heap.size]?=some (.cells (Array.replicate n4 (Value.slice none 0 0)) 148 (0,0)):=by rw[<-I4];exact heap_alloc_new W3 _
   have hc:W4.cell? ⟨W3.heap.size,i,none⟩=some (.slice none 0 0)/\W4.frozen? ⟨W3.heap.size,i,none⟩=false:=by unfold World.cell? World.frozen?;simp only[hn];simp[hi]
   obtain⟨g1,g2⟩:=jB hc (hblk _ (by omega) (by omega));exact⟨g2,none,0,0,g1,.inl ⟨rfl,rfl⟩⟩
  rcases List.mem_cons.1 hq with rfl|hq;·omega
  rcases List.mem_cons.1 hq with rfl|hq;·omega
  have:=hM q hq;omega
 have HX:=Hd X6;have c4':=F4.aQ 0 4;have d4:W6.cell? ⟨w.heap.size,4,none⟩=_:=X6.rc;have e4:=F3.aQ 0 4;have q1:=F3.aQ 3 0;have q2:=F3.zN 3 0;have q3:=F3.aQ 4 0;have q4:=F3.zN 4 0;have q5:=aN q1;have q6:=aN q3;have e5:=F4.aQ 1 0;have e6:=F4.zN 1 0;clear X6 F4 F3 F1 k5 b6 b4 bm yY hblk bl6 vl5 mv4 hr z3 s4z s6z;refine ent func99 rfl ntmps99 ?_;gi_wp2;gi_loopw[18] (fun i wr=>∃k:Nat,k<=n4/\i=.int .i64 k/\Hid (∃n,n<=k*3125/\Ai w wr W6.heap.size w.heap.size (W1.heap.size+1) W1.heap.size (W1.heap.size+1+1) (W1.heap.size+1+1+1) (w.heap.size+1) W3.heap.size W5.heap.size (W3.heap.size::W1.heap.size::M) r [] A4 n4 c4 n (fun _=>false))) (fun i _=>n4-(intOf i).toNat);case atStart=>exact⟨0,Nat.zero_le _,rfl,⟨0,Nat.zero_le _,HX.out⟩⟩
 case round=>
  obtain⟨k,hk,rfl,hX⟩:=hrel;by_cases hlt:k<n4
  ·obtain⟨nn,hnn,X⟩:=hX.out;have x1:=X.vx.1;have htop:=T.top k (by omega);have hp:(5:Nat)^(rk k+1)<=5^5:=Nat.pow_le_pow_right (by omega) (by omega);have EI:(5:Nat)^5=3125:=by decide
   have HE:=Hd (Dt T (rk k+1) k (Nat.lt_succ_self _) X (fun u hu=>by cases hu) hlt (by omega));have HP:=Hd (And.intro hnn (And.intro hp EI));clear X hnn hp EI htop
   gi_wp2_with (first
    |(refine Cl 144 HE.out ?_;rintro e w2 ⟨A',m',c',n',rfl,hs2,X2,hn2,k2⟩;have Zy:Hid (∃n,n<=(k+1)*3125/\Ai w w2 W6.heap.size w.heap.size (W1.heap.size+1) W1.heap.size (W1.heap.size+1+1) (W1.heap.size+1+1+1) (w.heap.size+1) W3.heap.size W5.heap.size (W3.heap.size::W1.heap.size::M) r [] A4 n4 c4 n (fun _=>false)):=by
       have:=HP.out;exact⟨n',by omega,X2⟩
      clear hs2 X2 hn2 k2)
    |fail)
   exact⟨⟨k+1,by omega,by go_num,Zy⟩,by simp[intOf];omega⟩
  ·have hkn:k=n4:=by omega
   clear hk hlt;subst hkn;obtain⟨nn,hnn,X⟩:=hX.out;have x1:=X.vc.1;have x2:=X.vg.1;have x3:=X.vl.1;have x4:=X.vl.2;have x5:=aN x3;have HR:=Hd (And.intro X.rows (And.intro X.ge.2.2.2.2.2.2.1 X.bl));clear X hX hnn;gi_wp2;refine⟨rfl,.tuple #[.slice (some ⟨W3.heap.size,0,none⟩) k k,.int .i64 0],by simp[results,go_sem,x3],W3.heap.size,rfl,fun i hi=>(HR.out.1 i hi).lessM (fun q hq=>List.mem_cons_of_mem _ (List.mem_cons_of_mem _ hq)),HR.out.2⟩
end
section
open Go.RowKit Go.Shelf
mutual
def fE:aU->aU->Bool
 | .mk k s n d l,.mk k' s' n' d' l'=>decide (k=k')&&decide (s=s')&&decide (n=n')&&decide (d=d')&&fQ l l'
def fQ:List aU->List aU->Bool
 | [], []=>true
 |x::l,y::l'=>fE x y&&fQ l l'
 | [],_::_=>false
 |_::_, []=>false
end
theorem KA(x y:aU):fE x y=(decide (x.kind=y.kind)&&decide (x.name=y.name)&&decide (x.n=y.n)&&decide (x.d=y.d)&&fQ x.l y.l):=by cases x;cases y;rw[fE];rfl
theorem yX:∀{l l':List aU},l.length≠l'.length->fQ l l'=false
 | [], [],h=>absurd rfl h
 | [],_::_,_=>by rw[fQ]
 |_::_, [],_=>by rw[fQ]
 |x::l,y::l',h=>by rw[fQ,yX (fun e=>h (by simp[e])),Bool.and_false]
theorem Dc{l:List aU}{k:Nat}{x y:aU}(hx:l[k]?=some x)(hy:l'[k]?=some y):fQ (l.drop k) (l'.drop k)=(fE x y&&fQ (l.drop (k+1)) (l'.drop (k+1))):=by obtain⟨h1,h2⟩:=List.getElem?_eq_some_iff.1 hx;obtain⟨h3,h4⟩:=List.getElem?_eq_some_iff.1 hy;have e1:=List.drop_eq_getElem_cons h1;have e2:=List.drop_eq_getElem_cons h3;rw[e1,e2,fQ,h2,h4]
def ZO(x:aU):Prop:=∀{y:aU}{M M':List Nat}{A B:Option Addr}{m c m' c':Nat}{w:World},Sl aU w M A m c x.l->Sl aU w M' B m' c' y.l->Calls prog 130 #[.agg #[.int .i64 x.kind,.string x.name,.int .i64 x.n,.int .i64 x.d,.slice A m c],.agg #[.int .i64 y.kind,.string y.name,.int .i64 y.n,.int .i64 y.d,.slice B m' c']] w fun e w'=>e=.returned (.bool (fE x y))/\Below w.heap.size w w'
set_option maxHeartbeats 8000000 in
theorem Yd{M:List Nat}{B:Option Addr}{n:Nat}{l:List aU}{w:World}(hx:Sl aU w M A n c l)(hy:Sl aU w M' B m d l')(hf:∀x,x∈l->ZO x):
 CB 184 #[.slice A n c,.slice B m d,.func (.func 130) #[] #[]] (.bool (fQ l l')) w:=by
 refine wid ?_;have hl1:=hx.len;have hl2:=hy.len;have hsm:=hx.small;have eg:=enters_of (P:=prog) func130 (by kernel_rfl) rfl;by_cases hnm:n=m
 ·subst hnm;have H:=Hd2 hx hy;have HL:=Hd2 hl1 hl2;have IH:=Hd hf;have HB0:=Hd (Below.refl w.heap.size w);have Un:=Hd (show fQ (l.drop 0) (l'.drop 0)=fQ l l' by simp);clear hx hy hl1 hl2 hf;refine ent func184 rfl ntmps184 ?_;gi_wp2;gi_loopw[17] (fun i wr=>∃k:Nat,k<=n/\i=.int .i64 k/\Hid (Below w.heap.size w wr)/\Hid (fQ (l.drop k) (l'.drop k)=fQ l l')) (fun i _=>n-(intOf i).toNat);case atStart=>exact⟨0,Nat.zero_le _,rfl,HB0,Un⟩
  case round=>
   obtain⟨k,hk,rfl,hB,hS⟩:=hrel;by_cases hlt:k<n
   ·obtain⟨x,hxk⟩:=dW l k (by rw[HL.out.1];exact hlt);obtain⟨y,hyk⟩:=dW l' k (by rw[HL.out.2];exact hlt);have hstep:=Dc hxk hyk;obtain⟨b1,o1,B1,m1,d1,rfl,⟨p0,p1,p2,p3,p4⟩,-,hs1⟩:=(H.out.1.go hB.out).qQ hxk;obtain⟨b2,o2,B2,m2,d2,rfl,⟨q0,q1,q2,q3,q4⟩,-,hs2⟩:=(H.out.2.go hB.out).qQ hyk;obtain⟨V1,hV1,dD,G1⟩:=fP (w:=wr) ((Fr.nil wr).a wr.heap.size [.int .i64 x.kind,.string x.name,.int .i64 x.n,.int .i64 x.d,.slice B1 m1 d1] 87);obtain⟨V2,hV2,oL,G2⟩:=fP (w:=V1) ((G1).a V1.heap.size [.int .i64 y.kind,.string y.name,.int .i64 y.n,.int .i64 y.d,.slice B2 m2 d2] 87);refine op1 G2 ?_;intros;obtain⟨q,hq⟩:=aC (fE x y);have HC:=Hd (IH.out x (List.mem_of_getElem? hxk) ((hs1.go dD).go oL) ((hs2.go dD).go oL));have HQ:=Hd hq;have HST:=Hd hstep;have HV:=Hd (hB.out.trans ((dD.trans (oL.mono dD.size)).mono hB.out.size));have r1:=(Keeps.of_below dD []).cell (by simp) q0;have r2:=(Keeps.of_below dD []).cell (by simp) q1;have r3:=(Keeps.of_below dD []).cell (by simp) q2;have r4:=(Keeps.of_below dD []).cell (by simp) q3;have r5:=(Keeps.of_below dD []).cell (by simp) q4;clear hxk hyk hstep hs1 hs2 hq G1 G2 dD oL;cases q
    ·gi_wp2_with (first
       |(refine Cl 130 HC.out ?_;rintro e w2 ⟨rfl,hb2⟩;rw[HQ.out];have HB2:=Hd (HV.out.trans (hb2.mono HV.out.size));clear hb2)
       |fail)
     go_ret;exact⟨by rw[<-hS.out,HST.out,HQ.out];rfl,HB2.out⟩
    gi_wp2_with (first
     |(refine Cl 130 HC.out ?_;rintro e w2 ⟨rfl,hb2⟩;rw[HQ.out];have HB2:=Hd (HV.out.trans (hb2.mono HV.out.size));clear hb2)
     |fail)
    exact adS
   ·have hkn:k=n:=by omega
    clear hk hlt;subst hkn;have HE:=Hd (show fQ l l'=true by rw[<-hS.out,List.drop_of_length_le (by rw[HL.out.1];exact Nat.le_refl _),List.drop_of_length_le (by rw[HL.out.2];exact Nat.le_refl _),fQ]);gi_wp2;go_ret;exact⟨by rw[HE.out];rfl,hB.out⟩
 ·have HE:=Hd (show fQ l l'=false from yX (by omega));clear hx hy hl1 hl2 hf;refine ent func184 rfl ntmps184 ?_;gi_wp2;go_ret;exact⟨by rw[HE.out];rfl,Below.refl _ _⟩
set_option maxHeartbeats 8000000 in
theorem Vp(x:aU):ZO x:=by
 induction x using iY with
 |_ x ih=>
 intro y M M' A B m c m' c' w hx hy;refine wid ?_;have hE:=KA x y;have IH:=Hd ih;obtain⟨l,hxl⟩:=aC x.l;obtain⟨l',hyl⟩:=aC y.l;obtain⟨X,hX⟩:=aC (fE x y);rw[hxl]at hx IH hE;rw[hyl]at hy hE;rw[hX]at hE |-;obtain⟨kd,hkd⟩:=aC x.kind;obtain⟨nm,hnm⟩:=aC x.name;obtain⟨xn,hxn⟩:=aC x.n;obtain⟨xd,hxd⟩:=aC x.d;obtain⟨kd',aaM⟩:=aC y.kind;obtain⟨nm',hnm'⟩:=aC y.name;obtain⟨yn,hyn⟩:=aC y.n;obtain⟨yd,hyd⟩:=aC y.d;rw[hkd,hnm,hxn,hxd,aaM,hnm',hyn,hyd]at hE |-;clear hkd hnm hxn hxd aaM hnm' hyn hyd hxl hyl hX ih;obtain⟨W1,hW1,F1⟩:=nam (((Fr.nil w).a w.heap.size [.int .i64 kd,.string nm,.int .i64 xn,.int .i64 xd,.slice A m c] 87).a (w.heap.size+1) [.int .i64 kd',.string nm',.int .i64 yn,.int .i64 yd,.slice B m' c'] 87);refine op1 F1 ?_;intros;have HB:=Hd F1.bl;have HS:=Hd2 (hx.go F1.bl) (hy.go F1.bl);have HE:=Hd hE;clear F1 hx hy hE;by_cases e1:kd=kd'
 ·subst e1;by_cases e2:nm=nm'
  ·subst e2;by_cases e3:xn=yn
   ·subst e3;by_cases e4:xd=yd
    ·subst e4;have HX:=Hd (show X=fQ l l' by rw[HE.out];simp);refine ent func130 rfl ntmps130 ?_
     gi_wp2_with (first
      |(refine Cl 184 (Yd HS.out.1 HS.out.2 IH.out) ?_;rintro e w2 ⟨rfl,hb2⟩;have HB2:=Hd (HB.out.trans (hb2.mono HB.out.size));clear hb2)
      |fail)
     go_ret;exact⟨by rw[HX.out];rfl,HB2.out⟩
    have HX:=Hd (show X=false by rw[HE.out];simp[e4]);exact adq
   have HX:=Hd (show X=false by rw[HE.out];simp[e3]);exact adq
  have HX:=Hd (show X=false by rw[HE.out];simp[e2]);have e2':¬nm.toList=nm'.toList:=fun h=>e2 (ByteArray.ext (Array.ext' (by rwa [Lib.toList_data,Lib.toList_data]at h)));exact adq
 have HX:=Hd (show X=false by rw[HE.out];simp[e1]);exact adq
def eqF{α:Type}(P:α->α->Bool):List α->List α->Bool
 | [], []=>true
 |x::l,y::l'=>P x y&&eqF P l l'
 |_,_=>false
theorem Jf{α:Type}(P:α->α->Bool):∀{l l':List α},l.length≠l'.length->eqF P l l'=false
 | [], [],h=>absurd rfl h
 | [],_::_,_=>rfl
 |_::_, [],_=>rfl
 |x::l,y::l',h=>by rw[eqF,Jf P (fun e=>h (by simp[e])),Bool.and_false]
theorem KO{α:Type}(P:α->α->Bool){l l':List α}{k:Nat}{x y:α}(hx:l[k]?=some x)(hy:l'[k]?=some y):eqF P (l.drop k) (l'.drop k)=(P x y&&eqF P (l.drop (k+1)) (l'.drop (k+1))):=by obtain⟨h1,h2⟩:=List.getElem?_eq_some_iff.1 hx;obtain⟨h3,h4⟩:=List.getElem?_eq_some_iff.1 hy;have e1:=List.drop_eq_getElem_cons h1;have e2:=List.drop_eq_getElem_cons h3;rw[e1,e2,eqF,h2,h4]
def Ak(x y:dA):Bool:=decide (x.2=y.2)
def vW(x y:aJ):Bool:=decide (x.2.2.2.2.2.2.2.2=y.2.2.2.2.2.2.2.2)&&fE (au x) (au y)
theorem Vq{x y:dA}{M:List Nat}{B:Option Addr}{n:Nat}{w:World}(hx:Sl bK w M A n c x.2)(hy:Sl bK w M' B m d y.2):
 CB 126 #[.agg #[.string x.1,.slice A n c],.agg #[.string y.1,.slice B m d]] (.bool (Ak x y)) w:=by
 refine wid ?_;obtain⟨W1,hW1,F1⟩:=nam (((Fr.nil w).a w.heap.size [.string x.1,.slice A n c] 169).a (w.heap.size+1) [.string y.1,.slice B m d] 169);refine op1 F1 ?_;intros;have HB:=Hd F1.bl;have HS:=Hd2 (hx.go F1.bl) (hy.go F1.bl);clear F1 hx hy;refine ent func126 rfl ntmps126 ?_
 gi_wp2_with (first
  |(refine Cl 127 (Ya HS.out.1 HS.out.2) ?_;rintro e w2 ⟨rfl,hb2⟩;have HB2:=Hd (HB.out.trans (hb2.mono HB.out.size));clear hb2)
  |fail)
 go_ret;exact⟨rfl,HB2.out⟩
theorem Vr{x y:aJ}{M:List Nat}{B:Option Addr}{n:Nat}{w:World}(hx:Sl aU w M A n c (au x).l)(hy:Sl aU w M' B m d (au y).l):
 CB 129 #[.agg #[.string x.1,.int .i64 x.2.1,.int .i64 x.2.2.1,.int .i64 x.2.2.2.1,.bool x.2.2.2.2.1,.bool x.2.2.2.2.2.1,.int .i64 (au x).kind,.string (au x).name,.int .i64 (au x).n,.int .i64 (au x).d,.slice A n c,.string x.2.2.2.2.2.2.2.1,.int .i64 x.2.2.2.2.2.2.2.2],.agg #[.string y.1,.int .i64 y.2.1,.int .i64 y.2.2.1,.int .i64 y.2.2.2.1,.bool y.2.2.2.2.1,.bool y.2.2.2.2.2.1,.int .i64 (au y).kind,.string (au y).name,.int .i64 (au y).n,.int .i64 (au y).d,.slice B m d,.string y.2.2.2.2.2.2.2.1,.int .i64 y.2.2.2.2.2.2.2.2]] (.bool (vW x y)) w:=by
 refine wid ?_;obtain⟨tx,htx⟩:=aC x.2.2.2.2.2.2.2.2;obtain⟨ty,hty⟩:=aC y.2.2.2.2.2.2.2.2;have HE:=Hd (show vW x y=(decide (tx=ty)&&fE (au x) (au y)) by unfold vW;rw[htx,hty]);rw[htx,hty];clear htx hty;obtain⟨W1,hW1,F1⟩:=nam (((Fr.nil w).a w.heap.size [.string x.1,.int .i64 x.2.1,.int .i64 x.2.2.1,.int .i64 x.2.2.2.1,.bool x.2.2.2.2.1,.bool x.2.2.2.2.2.1,.int .i64 (au x).kind,.string (au x).name,.int .i64 (au x).n,.int .i64 (au x).d,.slice A n c,.string x.2.2.2.2.2.2.2.1,.int .i64 tx] 89).a (w.heap.size+1) [.string y.1,.int .i64 y.2.1,.int .i64 y.2.2.1,.int .i64 y.2.2.2.1,.bool y.2.2.2.2.1,.bool y.2.2.2.2.2.1,.int .i64 (au y).kind,.string (au y).name,.int .i64 (au y).n,.int .i64 (au y).d,.slice B m d,.string y.2.2.2.2.2.2.2.1,.int .i64 ty] 89);refine op1 F1 ?_;intros;have HB:=Hd F1.bl;have HS:=Hd2 (hx.go F1.bl) (hy.go F1.bl);clear F1 hx hy;by_cases ht:tx=ty
 ·subst ht;refine ent func129 rfl ntmps129 ?_
  gi_wp2_with (first
   |(refine Cl 130 (Vp (au x) (y:=au y) HS.out.1 HS.out.2) ?_;rintro e w2 ⟨rfl,hb2⟩;have HB2:=Hd (HB.out.trans (hb2.mono HB.out.size));clear hb2)
   |fail)
  go_ret;exact⟨by rw[HE.out];simp,HB2.out⟩
 ·have HX:=Hd (show vW x y=false by rw[HE.out];simp[ht]);refine ent func129 rfl ntmps129 ?_;exact afp
set_option maxHeartbeats 8000000 in
theorem Ym{M:List Nat}{B:Option Addr}{n:Nat}{l l':List dA}{w:World}(hx:Sl dA w M A n c l)(hy:Sl dA w M' B m d l'):
 CB 125 #[.slice A n c,.slice B m d,.func (.func 126) #[] #[]] (.bool (eqF Ak l l')) w:=by
 refine wid ?_;have hl1:=hx.len;have hl2:=hy.len;have hsm:=hx.small;have eg:=enters_of (P:=prog) func126 (by kernel_rfl) rfl;by_cases hnm:n=m
 ·subst hnm;have H:=Hd2 hx hy;have HL:=Hd2 hl1 hl2;have HB0:=Hd (Below.refl w.heap.size w);have Un:=Hd (show eqF Ak (l.drop 0) (l'.drop 0)=eqF Ak l l' by simp);clear hx hy hl1 hl2;refine ent func125 rfl ntmps125 ?_;gi_wp2;gi_loopw[17] (fun i wr=>∃k:Nat,k<=n/\i=.int .i64 k/\Hid (Below w.heap.size w wr)/\Hid (eqF Ak (l.drop k) (l'.drop k)=eqF Ak l l')) (fun i _=>n-(intOf i).toNat);case atStart=>exact⟨0,Nat.zero_le _,rfl,HB0,Un⟩
  case round=>
   obtain⟨k,hk,rfl,hB,hS⟩:=hrel;by_cases hlt:k<n
   ·obtain⟨x,hxk⟩:=dW l k (by rw[HL.out.1];exact hlt);obtain⟨y,hyk⟩:=dW l' k (by rw[HL.out.2];exact hlt);have hstep:=KO Ak hxk hyk;obtain⟨b1,o1,B1,m1,d1,rfl,⟨p0,p1⟩,hs1⟩:=(H.out.1.go hB.out).n_ hxk;obtain⟨V1,hV1,dD,G1⟩:=fP (w:=wr) ((Fr.nil wr).a wr.heap.size [.string x.1,.slice B1 m1 d1] 169);obtain⟨b2,o2,B2,m2,d2,rfl,⟨q0,q1⟩,hs2⟩:=((H.out.2.go hB.out).go dD).n_ hyk;obtain⟨V2,hV2,oL,G2⟩:=fP (w:=V1) ((G1).a V1.heap.size [.string y.1,.slice B2 m2 d2] 169);refine op1 G2 ?_;intros;obtain⟨q,hq⟩:=aC (Ak x y);have HC:=Hd (Vq (x:=x) (y:=y) ((hs1.go dD).go oL) (hs2.go oL));have HQ:=Hd hq;have HST:=Hd hstep;have HV:=Hd (hB.out.trans ((dD.trans (oL.mono dD.size)).mono hB.out.size));clear hxk hyk hstep hs1 hs2 hq G1 G2 dD oL;cases q
    ·gi_wp2_with (first
       |(refine Cl 126 HC.out ?_;rintro e w2 ⟨rfl,hb2⟩;rw[HQ.out];have HB2:=Hd (HV.out.trans (hb2.mono HV.out.size));clear hb2)
       |fail)
     go_ret;exact⟨by rw[<-hS.out,HST.out,HQ.out];rfl,HB2.out⟩
    gi_wp2_with (first
     |(refine Cl 126 HC.out ?_;rintro e w2 ⟨rfl,hb2⟩;rw[HQ.out];have HB2:=Hd (HV.out.trans (hb2.mono HV.out.size));clear hb2)
     |fail)
    exact adS
   ·have hkn:k=n:=by omega
    clear hk hlt;subst hkn;have HE:=Hd (show eqF Ak l l'=true by exact aeu);gi_wp2;go_ret;exact⟨by rw[HE.out];rfl,hB.out⟩
 ·have HE:=Hd (show eqF Ak l l'=false from Jf Ak (by omega));clear hx hy hl1 hl2;refine ent func125 rfl ntmps125 ?_;gi_wp2;go_ret;exact⟨by rw[HE.out];rfl,Below.refl _ _⟩
set_option maxHeartbeats 8000000 in
theorem Yn{M:List Nat}{B:Option Addr}{n:Nat}{l l':List aJ}{w:World}(hx:Sl aJ w M A n c l)(hy:Sl aJ w M' B m d l'):
 CB 128 #[.slice A n c,.slice B m d,.func (.func 129) #[] #[]] (.bool (eqF vW l l')) w:=by
 refine wid ?_;have hl1:=hx.len;have hl2:=hy.len;have hsm:=hx.small;have eg:=enters_of (P:=prog) func129 (by kernel_rfl) rfl;by_cases hnm:n=m
 ·subst hnm;have H:=Hd2 hx hy;have HL:=Hd2 hl1 hl2;have HB0:=Hd (Below.refl w.heap.size w);have Un:=Hd (show eqF vW (l.drop 0) (l'.drop 0)=eqF vW l l' by simp);clear hx hy hl1 hl2;refine ent func128 rfl ntmps128 ?_;gi_wp2;gi_loopw[17] (fun i wr=>∃k:Nat,k<=n/\i=.int .i64 k/\Hid (Below w.heap.size w wr)/\Hid (eqF vW (l.drop k) (l'.drop k)=eqF vW l l')) (fun i _=>n-(intOf i).toNat);case atStart=>exact⟨0,Nat.zero_le _,rfl,HB0,Un⟩
  case round=>
   obtain⟨k,hk,rfl,hB,hS⟩:=hrel;by_cases hlt:k<n
   ·obtain⟨x,hxk⟩:=dW l k (by rw[HL.out.1];exact hlt);obtain⟨y,hyk⟩:=dW l' k (by rw[HL.out.2];exact hlt);have hstep:=KO vW hxk hyk;obtain⟨b1,o1,B1,m1,d1,rfl,⟨p0,p1,p2,p3,p4,p5⟩,⟨p6,p7,p8,p9,p10⟩,⟨p11,p12⟩,-,-,hs1⟩:=(H.out.1.go hB.out).iw hxk;obtain⟨V1,hV1,dD,G1⟩:=fP (w:=wr) ((Fr.nil wr).a wr.heap.size [.string x.1,.int .i64 x.2.1,.int .i64 x.2.2.1,.int .i64 x.2.2.2.1,.bool x.2.2.2.2.1,.bool x.2.2.2.2.2.1,.int .i64 (au x).kind,.string (au x).name,.int .i64 (au x).n,.int .i64 (au x).d,.slice B1 m1 d1,.string x.2.2.2.2.2.2.2.1,.int .i64 x.2.2.2.2.2.2.2.2] 89);obtain⟨b2,o2,B2,m2,d2,rfl,⟨q0,q1,q2,q3,q4,q5⟩,⟨q6,q7,q8,q9,q10⟩,⟨q11,q12⟩,-,-,hs2⟩:=((H.out.2.go hB.out).go dD).iw hyk;obtain⟨V2,hV2,oL,G2⟩:=fP (w:=V1) ((G1).a V1.heap.size [.string y.1,.int .i64 y.2.1,.int .i64 y.2.2.1,.int .i64 y.2.2.2.1,.bool y.2.2.2.2.1,.bool y.2.2.2.2.2.1,.int .i64 (au y).kind,.string (au y).name,.int .i64 (au y).n,.int .i64 (au y).d,.slice B2 m2 d2,.string y.2.2.2.2.2.2.2.1,.int .i64 y.2.2.2.2.2.2.2.2] 89);refine op1 G2 ?_;intros;obtain⟨q,hq⟩:=aC (vW x y);have HC:=Hd (Vr (x:=x) (y:=y) ((hs1.go dD).go oL) (hs2.go oL));have HQ:=Hd hq;have HST:=Hd hstep;have HV:=Hd (hB.out.trans ((dD.trans (oL.mono dD.size)).mono hB.out.size));clear hxk hyk hstep hs1 hs2 hq G1 G2 dD oL;cases q
    ·gi_wp2_with (first
       |(refine Cl 129 HC.out ?_;rintro e w2 ⟨rfl,hb2⟩;rw[HQ.out];have HB2:=Hd (HV.out.trans (hb2.mono HV.out.size));clear hb2)
       |fail)
     go_ret;exact⟨by rw[<-hS.out,HST.out,HQ.out];rfl,HB2.out⟩
    gi_wp2_with (first
     |(refine Cl 129 HC.out ?_;rintro e w2 ⟨rfl,hb2⟩;rw[HQ.out];have HB2:=Hd (HV.out.trans (hb2.mono HV.out.size));clear hb2)
     |fail)
    exact adS
   ·have hkn:k=n:=by omega
    clear hk hlt;subst hkn;have HE:=Hd (show eqF vW l l'=true by exact aeu);gi_wp2;go_ret;exact⟨by rw[HE.out];rfl,hB.out⟩
 ·have HE:=Hd (show eqF vW l l'=false from Jf vW (by omega));clear hx hy hl1 hl2;refine ent func128 rfl ntmps128 ?_;gi_wp2;go_ret;exact⟨by rw[HE.out];rfl,Below.refl _ _⟩
theorem Dv{α:Type}{P:α->α->Bool}:∀{l:List α},(∀x,x∈l->P x x=true)->eqF P l l=true
 | [],_=>rfl
 |x::l,h=>by rw[eqF,h x List.mem_cons_self,Dv (fun y hy=>h y (List.mem_cons_of_mem _ hy))];rfl
mutual
theorem Oe:∀x:aU,fE x x=true
 | .mk k s n d l=>by rw[fE,aac l];simp
theorem aac:∀l:List aU,fQ l l=true
 | []=>by rw[fQ]
 |x::l=>by rw[fQ,Oe x,aac l];rfl
end
theorem RQ{M:List Nat}{r:aS}{w:World}(hr:dG w M r s1 s2 s3 s4 s5 s6 s7)(hg:ZH r)(ht:Tab w)(hM:b_ M w):
 CB 97 #[.agg (aV r s1 s2 s3 s4 s5 s6 s7).toArray] (.int .i64 0) w:=by
 refine wid ?_;obtain⟨W1,hW1,F1⟩:=nam ((Fr.nil w).a w.heap.size (aV r s1 s2 s3 s4 s5 s6 s7) 52);refine op1 F1 ?_;intros;have H:=h_ (hr.go F1.bl) hg (tab_below ht F1.bl) (hM.le F1.bl.size);have HF:=Hd F1;clear F1 hr hg ht hM;refine ent func97 rfl ntmps97 ?_
 gi_wp2_with (first
  |(refine Cl 128 (Yn (H3.out.2.1.go HB.out) (H3.out.2.2.2.rounds.go HB.out)) ?_;rintro e w5 ⟨rfl,hb5⟩;rw[Dv (fun x _=>by unfold vW;rw[Oe];simp)];have HB2:=Hd (H3.out.2.2.1.trans ((HB.out.trans (hb5.mono HB.out.size)).mono H3.out.2.2.1.size));clear hb5)
  |(refine Cl 125 (Ym H3.out.1 H3.out.2.2.2.ties) ?_;rintro e w4 ⟨rfl,hb4⟩;rw[Dv (fun x _=>by unfold Ak;simp)];have HB:=Hd hb4;have hfo:=F3.out.go hb4;refine op1 hfo ?_;intros;clear hb4 hfo)
  |(refine Cl 124 (UQ H.out.1 H.out.2.1 H.out.2.2.1 H.out.2.2.2) ?_;rintro e w2 ⟨A4,c4,A5,c5,rfl,h4,h5,hb⟩;obtain⟨W3,hW3,yY,G3⟩:=fP (w:=w2) ((HF.out.go hb).a w2.heap.size [.string r.name,s1.v,s2.v,s3.v,.slice A4 s4.n c4,.slice A5 s5.n c5,s6.v,s7.v,.int .i64 r.best] 52);have H3:=h_ (h4.go yY) (h5.go yY) G3.bl ((H.out.1.go hb).go yY);have F3:=Hd G3;refine op1 G3 ?_;intros;clear h4 h5 hb G3 yY)
  |fail)
 go_ret;exact⟨rfl,HB2.out⟩
attribute [local go_sem] Oper.semAt_some
def Hg(i:Nat)(k:bK):Prop:=k.1≠2\/k.2.2<(i:Int)
def backOk(r:aS)(i:Nat)(x:aJ):Prop:=(∀y,y∈iZ (au x)->y.kind=5->y.n<(i:Int))/\(0<=x.2.2.2.2.2.2.2.2->∃t:Nat,x.2.2.2.2.2.2.2.2=(t:Int)/\t<r.ties.length/\∀k,k∈Jd r t->Hg i k)
theorem Oh{w:World}(hv:aZ w b (.int .i64 (i:Int)))(h:Hg i k):CB 102 #[.agg #[.int .i64 k.1,.string k.2.1,.int .i64 k.2.2],.pointer (some ⟨b,0,none⟩)] (.bool true) w:=by
 obtain⟨d,s,n⟩:=k;simp only[Hg]at h;refine wid ?_;obtain⟨W1,hW1,F1⟩:=nam ((Fr.nil w).a w.heap.size [.int .i64 d,.string s,.int .i64 n] 147);have c1:=(aZ.block hv (F1.bl.block _ hv.lt)).1;have HB:=Hd F1.bl;refine op1 F1 ?_;intros;clear F1 hv;by_cases e:d=2;·subst e;have h2:n<(i:Int):=h.resolve_left (fun g=>g rfl);have h3:decide (n<(i:Int))=true:=decide_eq_true h2;refine ent func102 rfl ntmps102 ?_;gi_wp2;go_ret;exact⟨by first|rfl|simp[h3,h2],HB.out⟩
 have h3:(d==2)=false:=beq_eq_false_iff_ne.2 e;have h4:(d !=2)=true:=bne_iff_ne.2 e;refine ent func102 rfl ntmps102 ?_;gi_wp2;go_ret;exact⟨by first|rfl|simp[h3,h4],HB.out⟩
end
section
open Go.RowKit Go.Shelf
def mkD(D:Nat):Deferred:={ target:=.collected D,args:=#[] }
structure ig(B:Nat)(W:World)(Ds:List Nat):Prop where
 nd:Ds.Nodup
 open_:∀D,D∈Ds->B<=D/\W.heap[D]?=some (.deferred (some []))
theorem ig.nil(B:Nat)(W:World):ig B W []:=⟨List.nodup_nil,fun _ h=>by cases h⟩
theorem ig.lt{B:Nat}{W:World}(h:ig B W Ds)(hD:D∈Ds):D<W.heap.size:=(Array.getElem?_eq_some_iff.1 (h.open_ D hD).2).1
theorem ig.go{B:Nat}{W W':World}(h:ig B W Ds)(hb:Below W.heap.size W W'):ig B W' Ds:=⟨h.nd,fun D hD=>⟨(h.open_ D hD).1,(hb.block D (h.lt hD)).trans (h.open_ D hD).2⟩⟩
theorem ig.add{B:Nat}{W:World}(h:ig B W Ds)(hD:W.heap[D]?=some (.deferred (some [])))(hB:B<=D)(hn:D∉Ds):ig B W (D::Ds):=⟨List.nodup_cons.2 ⟨hn,h.nd⟩,fun E hE=>by
  rcases List.mem_cons.1 hE with rfl|hE;·exact⟨hB,hD⟩
  exact h.open_ E hE⟩
theorem ig.Jc{B C:Nat}(hC:∀D,D∈Ds->D<C):jC C (fun W=>ig B W Ds):=by intro W W' row h hg hr;refine⟨h.nd,fun D hD=>⟨(h.open_ D hD).1,(hg.block D (h.lt hD) (fun e=>?_)).trans (h.open_ D hD).2⟩⟩;have:=(hr D e.symm).1;have:=hC D hD;omega
theorem Il{F:Fence}{n:Nat}{P:Program}{fn:Func}{tmps:Array Value}{R:Ending->World->Prop}{B:Nat}(S:World->Prop)(hS:∀W D,S W->B<=D->W.heap[D]?=some (.deferred (some []))->S (W.putObj D (.deferred none)))(hR:∀W,S W->LeavesIn F n P fn tmps R [] .returning W):
 ∀(Ds:List Nat) (W:World),S W->ig B W Ds->LeavesInM F n P fn tmps R (Ds.map mkD) .returning W
 | [],W,h,_=>hR W h
 |D::Ds,W,h,hm=>by have hD:=hm.open_ D List.mem_cons_self;refine⟨by simp,.inl ⟨D,W.putObj D (.deferred none),rfl,run_takeDeferred hD.2,Il S hS hR Ds _ (hS W D h hD.1 hD.2) ⟨(List.nodup_cons.1 hm.nd).2,fun E hE=>?_⟩⟩⟩;have hE2:=hm.open_ E (List.mem_cons_of_mem _ hE);refine⟨hE2.1,?_⟩;have hne:E≠D:=fun e=>(List.nodup_cons.1 hm.nd).1 (e▸hE);have hlt:=hm.lt (List.mem_cons_of_mem _ hE);exact((grownBy_putObj' W D (.deferred none)).block E hlt (fun e=>hne (by cases e;rfl))).trans hE2.2
def vC(t:Array Value)(slots:List Nat)(us:Nat->Value):Array Value:=slots.foldl (fun t s=>t.setIfInBounds s (us s)) t
theorem Io{us:Nat->Value}{i:Nat}:∀(slots:List Nat) (t:Array Value),t[i]?=some (us i)->(vC t slots us)[i]?=some (us i)
 | [],_,h=>h
 |s::l,t,h=>by
  refine Io l (t.setIfInBounds s (us s)) ?_;have hlt:=(Array.getElem?_eq_some_iff.1 h).1;rw[Array.getElem?_setIfInBounds];split;·rename_i e;subst e;simp[hlt]
  exact h
theorem MQ{us:Nat->Value}{i:Nat}:∀(slots:List Nat) (t:Array Value),i∈slots->i<t.size->(vC t slots us)[i]?=some (us i)
 |s::l,t,h,hi=>by
  by_cases e:i=s;·subst e;exact Io l _ (by rw[Array.getElem?_setIfInBounds];simp[hi])
  rcases List.mem_cons.1 h with h|h;·exact absurd h e
  exact MQ l _ h (by simp[hi])
theorem TM{slots:List Nat}(hs:∀i,i∈slots->i<t.size):vC t slots (fun i=>t.getD i undef)=t:=by
 suffices h:∀(l:List Nat) (t':Array Value),(∀i,i∈l->i<t.size)->t'=t->vC t' l (fun i=>t.getD i undef)=t from h slots t hs rfl
 intro l
 induction l with
 |nil=>exact fun t' _ h=>h
 |cons s l ih=>
  rintro t' hl rfl;refine ih _ (fun i hi=>hl i (List.mem_cons_of_mem _ hi)) ?_;have hlt:=hl s List.mem_cons_self;apply Array.ext;·simp
  ·intro i h1 h2;rw[Array.getElem_setIfInBounds];split;·rename_i e;subst e;simp[Array.getD,hlt]
   rfl
theorem Pm{n:Nat}{Q:Exit->Act->World->Prop}{ds0:List Deferred}{w:World}{c:Code}(slots:List Nat)(s:Nat)(rel:Value->List Deferred->World->Prop)(mu:Value->Nat)
 (hs:s∈slots) (hsz:∀i,i∈slots->i<t.size) (h0:rel (t.getD s undef) ds0 w)
 (round:∀us ds w,rel (us s) ds w->∀K:Act->World->Prop,(∀t' ds' w',vC t slots (fun i=>t'.getD i undef)=t'->rel (t'.getD s undef) ds' w'->mu (t'.getD s undef)<mu (us s)->K ⟨t',ds'⟩ w')->c.wpIn F n P (Exit.then K Q) ⟨vC t slots us,ds⟩ w):
 (Code.loop c).wpIn F n P Q ⟨t,ds0⟩ w:=by
 refine wpIn_loop (fun a w=>∃us ds,a=⟨vC t slots us,ds⟩/\rel (us s) ds w) (fun a _=>mu (a.tmps.getD s undef)) ⟨_,ds0,by rw[TM hsz],h0⟩ ?_;rintro a w ⟨us,ds,rfl,hr⟩;refine round us ds w hr _ (fun t' ds' w' he hr' hlt=>⟨⟨_,ds',by rw[he],hr'⟩,?_⟩);have hg:(vC t slots us).getD s undef=us s:=by have:=MQ (us:=us) slots t hs (hsz s hs);rw[Array.getD_eq_getD_getElem?,this];rfl
 show mu (t'.getD s undef)<mu ((vC t slots us).getD s undef);rw[hg];exact hlt
end
end Go.Proofs.YtefnknhjlejalaaGreatDoor
