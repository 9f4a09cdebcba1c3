/- Lemmas and walks; no statement is proved here. -/
import Derived.Laws.EntriesVeiled
import Derived.Laws.Rows
import Derived.Test.YtefnknhjlejalaaGreatDoorM21
import Derived.Test.YtefnknhjlejalaaGreatDoorM20
set_option linter.unusedVariables false
set_option linter.unusedSimpArgs false
set_option maxRecDepth 20000
set_option maxHeartbeats 6000000
namespace Go.Proofs.YtefnknhjlejalaaGreatDoor
theorem adC{p:Prop}(h:p:=by refine⟨v',w',r1,r2,?_,by simpa using r4,r3.size,fun k hk hm=>r3.block k hk (fun e=>hm (bJ.2 e.symm))⟩;exact⟨r3.os.trans hbl.os,r3.tape.trans hbl.tape,r3.output.trans hbl.output,Nat.le_trans hbl.size r3.size,fun k hk hne=>(r3.block k (Nat.lt_of_lt_of_le hk hbl.size) hne).trans (hbl.block k hk)⟩):p:=h
theorem adU{p:Prop}(h:p:=by obtain⟨cs,h1,h2⟩:=h.ex;refine⟨h.len,cs,qp h1 (fun g hg hl=>k.block g hl (hv g hg)),fun j x hx=>?_⟩;obtain⟨es,a,b⟩:=h2 j x hx;exact⟨es,Rep.keep a (k.mono (fun x hx=>List.mem_append_right _ (hK x hx))),b⟩):p:=h
theorem adW{p:Prop}(h:p:=by have HR:=Hd (hR.symm.trans (if_neg hc));have hd:decide (cc<=0)=false:=decide_eq_false hc;clear hR;exact AX):p:=h
theorem adY{p:Prop}(h:p:=by have hl:=h.lt b vs hm;have hb:=hg.block b hl (fun e=>(hr b e.symm).2 b vs hm rfl);have:=h.at_ b vs hm i u hu;exact⟨by rw[<-this.1];simp only[World.cell?,hb],by rw[<-this.2];simp only[World.frozen?,hb]⟩):p:=h
theorem adZ{p:Prop}(h:p:=by have HR:=Hd (hR.symm.trans (if_pos hc));have hd:decide (cc<=0)=true:=decide_eq_true hc;clear hR;exact AX):p:=h
variable {w' W V V' W':World}{y s o n0 i id f base d:Nat}{u v v0 v1 v2 v3 v4 v5 v6 v7:Value}{a':Act}{oi:Oper}{L L':List (Nat×List Value)}{listed:Array Bool}{e:TypeId}{x:Rt}
section
namespace U
open Go.RowKit Go.Shelf
structure Keeps(s:Nat)(w w':World):Prop where
 size:w.heap.size<=w'.heap.size
 block:∀k,k<w.heap.size->k<s->w'.heap[k]?=w.heap[k]?
theorem Keeps.refl(s:Nat)(w:World):Keeps s w w:=⟨Nat.le_refl _,fun _ _ _=>rfl⟩
theorem Keeps.trans{s:Nat}{w w' w'':World}(h:Keeps s w w')(h':Keeps s w' w''):Keeps s w w'':=⟨Nat.le_trans h.size h'.size,fun k hk hm=>(h'.block k (Nat.lt_of_lt_of_le hk h.size) hm).trans (h.block k hk hm)⟩
theorem Keeps.of_below{w:World}(h:Below w.heap.size w w')(s:Nat):Keeps s w w':=⟨h.size,fun k hk _=>h.block k hk⟩
theorem Keeps.sU{w:World}(h:Go.Proofs.YtefnknhjlejalaaGreatDoor.Keeps [y] w w')(hy:s<=y):Keeps s w w':=⟨h.size,fun k hk hs=>h.block k hk (by simp;omega)⟩
theorem X5{w:World}{b:Nat}(h:w.cell? ⟨b,o,none⟩=some u):∀w',Keeps w.heap.size w.drew w'->w'.cell? ⟨b,o,none⟩=some u:=fun w' k=>by have hl:b<w.heap.size:=World.block_lt_of_cell? w _ h;have:=k.block b hl hl;rw[<-h];simp only[World.cell?,this];rfl
theorem bQ{w:World}{b:Nat}(hs:w.heap.size=s)(h:w.cell? ⟨b,o,none⟩=some u):∀w',Keeps s w.drew w'->w'.cell? ⟨b,o,none⟩=some u:=by subst hs;exact X5 h
section
variable {F:Fence}{n:Nat}{P:Program}{Mr:Nat}{md:Region.Mode}{ops:Array Oper}{Q:Exit→Act→World→Prop}
def nX(P:Program)(Mr:Nat)(o:Oper)(a:Act)(w:World)(v:Value):Prop:=∀w',Keeps Mr w w'->(execOp a.eval o).run P w'=.ok (.value v) w'
theorem uf{P:Program}{Mr:Nat}{o:Oper}{a:Act}{w:World}(h:∀w',Keeps Mr w w'->∀Z:Result Next->Prop,Z (.ok (.value v) w')->Z ((execOp a.eval o).run P w')):nX P Mr o a w v:=fun w' hk=>h w' hk (fun r=>r=.ok (.value v) w') rfl
def dw(P:Program)(Mr:Nat)(ops:Array Oper)(o:Oper)(v:Value)(a:Act)(w:World):Prop:=(Region.wanted o (yielded ops a.tmps)=true/\nX P Mr o a w v)\/(Region.wanted o (yielded ops a.tmps)=false/\v=undef)
theorem dw.wpOpIn{i:Nat}{o:Oper}{v:Value}{a:Act}{w:World}(hm:Oper.mild o=true)(hi:ops[i]?=some o)(hy:dw P Mr ops o v a w)
 {K:Act->World->Prop}(h:K (a.put o.dst v) w):wpOpIn F n P ops Q i K a w:=by
 exact adP
theorem dw.of_same{o:Oper}{a:Act}{w:World}(hy:dw P Mr ops o v a w)(he:execOp a'.eval o=execOp a.eval o)
 (hw:Region.wanted o (yielded ops a'.tmps)=Region.wanted o (yielded ops a.tmps)):dw P Mr ops o v a' w:=by
 unfold dw nX at*;rw[he,hw];exact hy
theorem dw.later{o:Oper}{a:Act}{w:World}(hy:dw P Mr ops o v a w)(hk:Keeps Mr w w'):dw P Mr ops o v a w':=by exact aeY
theorem sG{j:Nat}{oj:Oper}(hnd:∀c,oj.op≠.defer c)(hj:ops[j]?=some oj)(hap:oi.apart ops oj=true)
 (hsi:∀cs b,oi.op≠.select cs b) (hsj:∀cs b,oj.op≠.select cs b)
 (hQ:∀c a w,Q (.panic c) (a.put oi.dst v) w->Q (.panic c) a w) {K:Act->World->Prop}{a:Act}{w:World}
 (hy:dw P Mr ops oi v a W) (h:wpOpIn F n P ops Q j K (a.put oi.dst v) w):
 wpOpIn F n P ops Q j (fun a' w'=>dw P Mr ops oi v a' W/\K (a'.put oi.dst v) w') a w:=by
 exact acX
def jQ(F:Fence)(n:Nat)(P:Program)(Mr:Nat)(md:Region.Mode)(ops:Array Oper)(Q:Exit->Act->World->Prop)(n0:Nat)(L:Array Bool->Act->World->Prop):Nat->Array Bool->Act->World->Prop
 |0,listed,a,w=>L listed a w
 |f+1,listed,a,w=>
  Region.ready md ops listed≠ []/\
  ∀i∈Region.ready md ops listed,i<n0/\wpOpIn F n P ops Q i (fun a' w'=>Keeps Mr w w'/\jQ F n P Mr md ops Q n0 L f (listed.setIfInBounds i true) a' w') a w
theorem iK{n0 g:Nat}{L:Array Bool->Act->World->Prop}(hL:∀listed a w,L listed a w->wpAnyIn F n P md ops Q g listed a w):
 ∀(f:Nat) (listed:Array Bool) (a:Act) (w:World),jQ F n P Mr md ops Q n0 L f listed a w->wpAnyIn F n P md ops Q (f+g) listed a w
 |0,listed,a,w,h=>by rw[Nat.zero_add];exact hL _ _ _ h
 |f+1,listed,a,w,h=>by exact aeo
theorem ni{L:Array Bool->Act->World->Prop}(hm:Oper.mild oi=true)(hi:ops[i]?=some oi)
 (hsel:∀(j:Nat) (o:Oper) cs b,ops[j]?=some o->o.op≠.select cs b) (hdef:uh ops=true)
 (hQ:∀c a w,Q (.panic c) (a.put oi.dst v) w->Q (.panic c) a w)
 (ht:kZ md ops n0=true) (hin:i<n0) (hdone:∀listed a w,L listed a w->∀j∈Region.ready md ops listed,n0<=j):
 ∀(f:Nat) (listed:Array Bool) (a:Act) (w:World),HeadInv md ops n0 listed->
  (∀j oj,ops[j]?=some oj->j≠i->listed.getD j true=false->(∀e∈oj.after,Region.binds md e=true->e.on≠i)->oi.apart ops oj=true)->
  i∈Region.ready md ops listed->dw P Mr ops oi v a w->
  jQ F n P Mr md ops Q n0 L f (listed.setIfInBounds i true) (a.put oi.dst v) w->jQ F n P Mr md ops Q n0 L (f+1) listed a w:=by
 intro f;exact acY
end
section
variable {F:Fence}{n:Nat}{P:Program}{Mr:Nat}{Q:Exit→Act→World→Prop}
def nH(F:Fence)(n:Nat)(P:Program)(Mr:Nat)(ops:Array Oper)(Q:Exit->Act->World->Prop)(n0 f:Nat)(listed:Array Bool)(a:Act)(w:World):Prop:=jQ F n P Mr .any ops Q n0 (Lh F n P ops Q n0) f listed a w
theorem BR(Mr:Nat){ops:Array Oper}{a:Act}{w:World}(n0:Nat)(hm:P.follows .mixedOrders=true)(hok:um ops n0=true)
 (h:nH F n P Mr ops Q n0 n0 (Array.replicate ops.size false) a w.drew):(Code.region id ops true).wpIn F n P Q a w:=by
 exact adM
theorem aP(Mr:Nat){ops:Array Oper}{a:Act}{w:World}(n0:Nat)(hm:P.follows .mixedOrders=true)(hok:um ops n0=true)
 (h:nH F n P Mr ops (cu Q) n0 n0 (Array.replicate ops.size false) a w.drew):(Code.region id ops true).wpIn F n P Q a w:=
 wpIn_mono (BR Mr n0 hm hok h) (fun e a w h=>by cases e<;>first|exact h|exact h.elim)
theorem FN{ops:Array Oper}{a:Act}{w:World}(g:Nat)(hl:listed=qO ops n0)(hg:ops.size-n0=g)(h:wpOpsIn F n P ops Q (List.range' n0 g) a w):nH F n P Mr ops Q n0 0 listed a w:=⟨hl,by rw[hg];exact h⟩
theorem Nz{l:List Oper}{a:Act}{w:World}(i:Nat){o:Oper}(hok:yO l.toArray n0 listed i=true)(ho:l[i]?=some o)(hm:Oper.mild o=true)
 (hw:Region.wanted o (yielded l.toArray a.tmps)=true) (hQ:∀d v c a w,Q (.panic c) (a.put d v) w->Q (.panic c) a w)
 (h:∃v,(∀w',Keeps Mr w w'->∀Z:Result Next->Prop,Z (.ok (.value v) w')->Z ((execOp a.eval o).run P w'))/\nH F n P Mr l.toArray Q n0 f (listed.setIfInBounds i true) (a.put o.dst v) w):
 nH F n P Mr l.toArray Q n0 (f+1) listed a w:=by
 exact adg
def vG(F:Fence)(n:Nat)(P:Program)(Mr:Nat)(ops:Array Oper)(Q:Exit->Act->World->Prop)(n0 f:Nat)(listed:Array Bool)(a:Act)(w:World):List Nat->Prop
 | []=>True
 |i::r=>(i<n0/\wpOpIn F n P ops Q i (fun a' w'=>Keeps Mr w w'/\nH F n P Mr ops Q n0 f (listed.setIfInBounds i true) a' w') a w)/\vG F n P Mr ops Q n0 f listed a w r
theorem oQ{ops:Array Oper}{a:Act}{w:World}(i:Nat)(r:List Nat)(hr:Region.ready .any ops listed=i::r)(h:vG F n P Mr ops Q n0 f listed a w (i::r)):
 nH F n P Mr ops Q n0 (f+1) listed a w:=by
 exact adn
theorem gU{ops:Array Oper}{a:Act}{w:World}:vG F n P Mr ops Q n0 f listed a w []:=trivial
theorem dN{l:List Oper}{a:Act}{w:World}{r:List Nat}{o:Oper}(hi:i<n0)(ho:l[i]?=some o)(hw:Region.wanted o (yielded l.toArray a.tmps)=true)
 (h:∀K:Act->World->Prop,(∀a' w',Keeps Mr w w'/\nH F n P Mr l.toArray Q n0 f (listed.setIfInBounds i true) a' w'->K a' w')->o.wpIn F n P a w K Q)
 (hr:vG F n P Mr l.toArray Q n0 f listed a w r):vG F n P Mr l.toArray Q n0 f listed a w (i::r):=by
 refine⟨⟨hi,?_⟩,hr⟩;unfold wpOpIn;exact adF
end
attribute [irreducible] nH vG dw nX
section
variable {F:Fence}{n:Nat}{P:Program}{Mr:Nat}{Q:Exit→Act→World→Prop}
theorem ay{l:List Oper}{listed':Array Bool}{a:Act}{w:World}(i:Nat){o:Oper}(h:U.nH F n P Mr l.toArray (cu Q) n0 f listed' a' w)
 (hok:yO l.toArray n0 listed i=true:=by kernel_rfl) (ho:l[i]?=some o:=by exact rfl) (hm:Oper.mild o=true:=by exact rfl)
 (hw:Region.wanted o (yielded l.toArray a.tmps)=true:=by exact ac8)
 (hv:∀w',U.Keeps Mr w w'->∀Z:Result Next->Prop,Z (.ok (.value v) w')->Z ((execOp a.eval o).run P w'):=by exact adJ)
 (ha:a.put o.dst v=a':=by exact ac2)
 (hl:listed.setIfInBounds i true=listed':=by exact ac2):
 U.nH F n P Mr l.toArray (cu Q) n0 (f+1) listed a w:=
 U.Nz i hok ho hm hw BU ⟨v,hv,by rw[ha,hl];exact h⟩
theorem eU{l:List Oper}{a:Act}{w:World}(i:Nat){o:Oper}
 (h:∀K:Act->World->Prop,(∀a' w',U.Keeps Mr w w'/\U.nH F n P Mr l.toArray Q n0 f (listed.setIfInBounds i true) a' w'->K a' w')->o.wpIn F n P a w K Q)
 (hr:Region.ready .any l.toArray listed= [i]:=by kernel_rfl) (hi:i<n0:=by decide) (ho:l[i]?=some o:=by exact rfl)
 (hw:Region.wanted o (yielded l.toArray a.tmps)=true:=by exact ac8):
 U.nH F n P Mr l.toArray Q n0 (f+1) listed a w:=
 U.oQ i [] hr (U.dN hi ho hw h U.gU)
theorem iq{ops:Array Oper}{a:Act}{w:World}(g:Nat)(h:wpOpsIn F n P ops Q (List.range' n0 g) a w)(hl:listed=qO ops n0:=by kernel_rfl)(hg:ops.size-n0=g:=by exact rfl):U.nH F n P Mr ops Q n0 0 listed a w:=U.FN g hl hg h
end
end U
end
theorem Xp:(Tryz.prog.info? 30).map (fun i=>(i.zero,i.size,i.bytes))=some (some (.agg #[.bool false,.slice none 0 0,.bool false,.slice none 0 0]),4,64):=by kernel_rfl
abbrev EP:Value:=.agg #[.bool false,.slice none 0 0,.bool false,.slice none 0 0]
theorem Uf{r:RatR}(hr:dF r=true)(h:Few3 r):(OE r).ok/\(OE r).num.natAbs<BB^3/\(OE r).den.natAbs<BB^3:=by
 obtain⟨x,hx,rfl⟩:=(zx r).1 hr;rw[Lm];have h1:(bG x.num).length<=3:=by have:=h.1;simpa[jd,jk,ints]using this
 have h2:(bG x.den).length<=3:=by have:=h.2;simpa[jd,jk,ints]using this
 exact⟨hx,(lY x.num.natAbs 3).2 h1,(lY x.den.natAbs 3).2 h2⟩
theorem sV{l:List Rt}(hl:l.length<=100)(h:∀x,x∈l->x.ok/\x.num.natAbs<BB^3/\x.den.natAbs<BB^3):YT 0 l:=Np (j:=3) (fun x hx=>⟨(h x hx).1,Nat.lt_of_lt_of_le (h x hx).2.1 (zy (by omega)),(h x hx).2.2⟩) (by omega)
theorem PI{r:RatR}(h:dF r=true):jd (OE r)=r:=by obtain⟨x,hx,rfl⟩:=(zx r).1 h;rw[Lm]
theorem PK{l:List RatR}(h:l.all dF=true):(l.map OE).map jd=l:=by
 rw[List.map_map];conv=>rhs;rw[<-List.map_id l]
 exact List.map_congr_left fun x hx=>PI (List.all_eq_true.1 h x hx)
section
open Go.RowKit Go.Shelf
attribute [local go_sem] Oper.semAt_some
theorem QC.drew{w:World}{M:List Nat}{r:Rt}{p q:Bool}{A B:Option Addr}{n c m d:Nat}(h:QC w M r p q A n c B m d):QC w.drew M r p q A n c B m d:=⟨h.num.drew,h.den.drew⟩
structure E_(w:World)(M:List Nat)(A:Option Addr)(n c:Nat)(l:List Rg):Prop where
 len:l.length=n
 small:n<=140737488355328
 at_:∀{k:Nat},k<n->∃b o p1 q1 A1 n1 c1 B1 m1 d1 p2 q2 A2 n2 c2 B2 m2 d2,A=some ⟨b,o,none⟩/\
  (w.cell? ⟨b,o+k*8,none⟩=some (.bool p1)/\w.cell? ⟨b,o+k*8+1,none⟩=some (.slice A1 n1 c1)/\w.cell? ⟨b,o+k*8+2,none⟩=some (.bool q1)/\w.cell? ⟨b,o+k*8+3,none⟩=some (.slice B1 m1 d1))/\
  (w.cell? ⟨b,o+k*8+4,none⟩=some (.bool p2)/\w.cell? ⟨b,o+k*8+5,none⟩=some (.slice A2 n2 c2)/\w.cell? ⟨b,o+k*8+6,none⟩=some (.bool q2)/\w.cell? ⟨b,o+k*8+7,none⟩=some (.slice B2 m2 d2))/\
  QC w M (o_ l k).1 p1 q1 A1 n1 c1 B1 m1 d1/\QC w M (o_ l k).2 p2 q2 A2 n2 c2 B2 m2 d2
theorem E_.of{w:World}{M:List Nat}{A:Option Addr}{n c:Nat}{l:List Rg}(h:Sl Bf w M A n c (l.map aax)):E_ w M A n c l:=by
 have hn:=h.len;simp at hn;refine⟨hn,h.small,fun{k} hk=>?_⟩;obtain⟨x,hx⟩:=dW l k (by omega);have he:o_ l k=x:=by simp[o_,hx]
 obtain⟨b,o,A1,n1,c1,A2,n2,c2,A3,n3,c3,A4,n4,c4,rfl,g1,g2,⟨s1,s2⟩,s3,s4⟩:=h.aaY (k:=k) (x:=aax x) (by rw[List.getElem?_map,hx];rfl);rw[he];exact⟨b,o,_,_,A1,n1,c1,A2,n2,c2,_,_,A3,n3,c3,A4,n4,c4,rfl,g1,g2,⟨⟨rfl,s1⟩,⟨rfl,s2⟩⟩,⟨rfl,s3⟩,⟨rfl,s4⟩⟩
theorem E_.go{w w':World}{M:List Nat}{A:Option Addr}{n c:Nat}{l:List Rg}(h:E_ w M A n c l)(hb:Below w.heap.size w w'):E_ w' M A n c l:=⟨h.len,h.small,fun{k} hk=>by obtain⟨b,o,p1,q1,A1,n1,c1,B1,m1,d1,p2,q2,A2,n2,c2,B2,m2,d2,rfl,⟨h0,h1,h2,h3⟩,⟨h4,h5,h6,h7⟩,qc,qd⟩:=h.at_ hk;have hl:b<w.heap.size:=World.block_lt_of_cell? w _ h0;exact⟨b,o,p1,q1,A1,n1,c1,B1,m1,d1,p2,q2,A2,n2,c2,B2,m2,d2,rfl,⟨(hb.cell (p:=⟨b,_,none⟩) hl).trans h0,(hb.cell (p:=⟨b,_,none⟩) hl).trans h1,(hb.cell (p:=⟨b,_,none⟩) hl).trans h2,(hb.cell (p:=⟨b,_,none⟩) hl).trans h3⟩,⟨(hb.cell (p:=⟨b,_,none⟩) hl).trans h4,(hb.cell (p:=⟨b,_,none⟩) hl).trans h5,(hb.cell (p:=⟨b,_,none⟩) hl).trans h6,(hb.cell (p:=⟨b,_,none⟩) hl).trans h7⟩,qc.go hb,qd.go hb⟩⟩
theorem E_.more{w:World}{M:List Nat}{A:Option Addr}{n c b:Nat}{l:List Rg}(h:E_ w M A n c l)(hb:w.heap.size<=b):E_ w (b::M) A n c l:=⟨h.len,h.small,fun{k} hk=>by obtain⟨b',o,p1,q1,A1,n1,c1,B1,m1,d1,p2,q2,A2,n2,c2,B2,m2,d2,rfl,h1,h2,qc,qd⟩:=h.at_ hk;exact⟨b',o,p1,q1,A1,n1,c1,B1,m1,d1,p2,q2,A2,n2,c2,B2,m2,d2,rfl,h1,h2,qc.more hb,qd.more hb⟩⟩
theorem E_.drew{w:World}{M:List Nat}{A:Option Addr}{n c:Nat}{l:List Rg}(h:E_ w M A n c l):E_ w.drew M A n c l:=⟨h.len,h.small,fun{k} hk=>by obtain⟨b',o,p1,q1,A1,n1,c1,B1,m1,d1,p2,q2,A2,n2,c2,B2,m2,d2,rfl,h1,h2,qc,qd⟩:=h.at_ hk;exact⟨b',o,p1,q1,A1,n1,c1,B1,m1,d1,p2,q2,A2,n2,c2,B2,m2,d2,rfl,h1,h2,qc.drew,qd.drew⟩⟩
end
section
open Go.RowKit Go.Shelf
theorem UZ{α:Type} [kJ α] {t ty:TypeId}{i:TypeInfo}{z:Value}{w:World}{M:List Nat}{n:Nat}{xs:List α}{x:α}{cs:List Value}
 (h:bD α e w M base v n xs) (hb:base<=w.heap.size) (hM:b_ M w) (ht:Tryz.prog.underlying t=some (.slice e)) (hi:Tryz.prog.info? e=some i) (hz:i.zero=some z) (hs:i.size=Rep.sz α) (hzs:z.cells.size=Rep.sz α) (hbt:i.bytes<=200)
 (hx:Rep.rd w (bP v++M) x cs) (hn:n<=100000):
 ∃v' w',(Builtin.append_ #[t,t] ty #[v,.slice (some ⟨w.heap.size,0,none⟩) 1 1]).run Tryz.prog (w.alloc (.cells cs.toArray e))=.ok v' w'/\bD α e w' M base v' (n+1) (xs++ [x])/\w.grownBy w' v.ownBlock/\(v'.ownBlock=v.ownBlock\/v'.ownBlock=some (w.heap.size+1))/\Keeps (bP v) (w.alloc (.cells cs.toArray e)) w':=by
 have hown:∀q,q∈bP v->q<w.heap.size:=fun q hq=>(h.lt (bJ.1 hq)).2;have hMo:b_ (bP v++M) w:=fun q hq=>by
  rcases List.mem_append.1 hq with hq|hq;·exact hown q hq
  exact hM q hq
 have hsl:Sl α (w.alloc (.cells cs.toArray e)) (bP v++M) (some ⟨w.heap.size,0,none⟩) 1 1 [x]:=by
  refine Sl.lit hMo e (cs:=cs) rfl (by omega) fun k y hk=>?_
  match k,hk with
  |0,hk=>cases hk;exact⟨cs,hx,fun j u hu=>by simpa using hu⟩
 have hbl:Below w.heap.size w (w.alloc (.cells cs.toArray e)):=by exact bel
 have hnb:(n+1)*i.bytes<=140737488355328:=Nat.le_trans (Nat.mul_le_mul (show n+1<=100001 by omega) hbt) (by decide);obtain⟨v',w',r1,r2,r3,r4⟩:=(h.go hbl).uy (ty:=ty) (t:=t) (by simp;omega) ht hi hz hs hzs hsl hnb (by omega);exact adC
abbrev Dy(w:World)(M:List Nat)(base:Nat)(v:Value)(n:Nat)(l:List Rt):Prop:=bD RatR 30 w M base v n (l.map jd)
theorem Hf{w:World}{M:List Nat}{n:Nat}{l:List Rt}{p q:Bool}{A B:Option Addr}{k c m:Nat}(h:Dy w M base v n l)(hb:base<=w.heap.size)(hM:b_ M w)(hx:QC w (bP v++M) x p q A k c B m d)(hn:n<=100000):
 ∃v' w',(Builtin.append_ #[23,23] 23 #[v,.slice (some ⟨w.heap.size,0,none⟩) 1 1]).run Tryz.prog (w.alloc (.cells #[.bool p,.slice A k c,.bool q,.slice B m d] 30))=.ok v' w'/\Dy w' M base v' (n+1) (l++ [x])/\w.grownBy w' v.ownBlock/\(v'.ownBlock=v.ownBlock\/v'.ownBlock=some (w.heap.size+1))/\Keeps (bP v) (w.alloc (.cells #[.bool p,.slice A k c,.bool q,.slice B m d] 30)) w':=by
 obtain⟨i,hi,hz,hs,hb2⟩:=info_parts Xp;obtain⟨v',w',r1,r2,r3,r4⟩:=UZ (ty:=23) (t:=23) (x:=jd x) (cs:= [.bool p,.slice A k c,.bool q,.slice B m d]) h hb hM Tryz.underlying23 hi hz hs rfl (by omega) (by have e1:(jd x).1.1=p:=hx.num.neg;have e2:(jd x).2.1=q:=hx.den.neg;rw[<-e1,<-e2];exact JB (x:=jd x) hx.num.sl hx.den.sl) hn;exact⟨v',w',r1,by rw[Dy,List.map_append];exact r2,r3,r4⟩
theorem bD.cells{α:Type} [kJ α] {w:World}{M:List Nat}{n:Nat}{xs:List α}(h:bD α e w M base v n xs):
 (v=.slice none 0 0/\n=0)\/∃g c,v=.slice (some ⟨g,0,none⟩) n c/\n<=c/\base<=g/\∀k x,xs[k]?=some x->∃es,Rep.rd w (bP v++M) x es/\∀j u,es[j]?=some u->w.cell? ⟨g,k*Rep.sz α+j,none⟩=some u:=by
 obtain⟨cs,h1,h2⟩:=h.ex;rcases h1.2 with⟨rfl,rfl⟩|⟨g,cap,cur,rfl,hb,hh,hnc,hcm,hsz,htk⟩;·exact .inl ⟨rfl,rfl⟩
 ·refine .inr ⟨g,cap,rfl,hnc,hb,fun k x hk=>?_⟩;obtain⟨es,a,b⟩:=h2 k x hk;refine⟨es,a,fun j u hu=>?_⟩;exact aeb
theorem bD.slQ{w:World}{M:List Nat}{n:Nat}{l:List Rt}(h:Dy w M base v n l)(hn:n<=100000):∃A c,v=.slice A n c/\qC w (bP v++M) A n c l:=by
 have hl:l.length=n:=by have:=h.len;simpa using this
 rcases h.cells with⟨rfl,rfl⟩|⟨g,c,rfl,-,-,hc⟩;·exact⟨none,0,rfl,hl,by omega,fun{k} hk=>by omega⟩
 refine⟨_,c,rfl,hl,by omega,fun{k} hk=>?_⟩;obtain⟨x,hx⟩:=dW l k (by omega);obtain⟨es,h1,h2⟩:=hc k (jd x) (by rw[List.getElem?_map,hx];rfl);obtain⟨A,n1,c1,B,m1,d1,rfl,g1,g2⟩:=Bg h1;have he:aW l k=x:=by simp[aW,hx]
 rw[he];have h3:=fun j u hu=>h2 j u hu;refine⟨g,0,_,_,A,n1,c1,B,m1,d1,rfl,⟨?_,?_,?_,?_⟩,⟨rfl,g1⟩,⟨rfl,g2⟩⟩;·rw[Nat.zero_add];exact h2 0 _ rfl
 ·rw[Nat.zero_add];exact h2 1 _ rfl
 ·rw[Nat.zero_add];exact h2 2 _ rfl
 rw[Nat.zero_add];exact h2 3 _ rfl
theorem bD.abb{α:Type} [kJ α] {w:World}{M K:List Nat}{n:Nat}{xs:List α}(h:bD α e w M base v n xs)(k:Keeps K w w')(hK:∀x,x∈K->x∈M)(hv:∀g,v.ownBlock=some g->g∉K):bD α e w' M base v n xs:=by exact adU
theorem bD.made{α:Type} [kJ α] (w:World)(M:List Nat)(hb:base<=w.heap.size)(cur:Array Value)(cap:Nat)(hm:cap<=1000000)(hs:cur.size=cap*Rep.sz α):bD α e (w.alloc (.cells cur e)) M base (.slice (some ⟨w.heap.size,0,none⟩) 0 cap) 0 []:=⟨rfl, [],World.ownsRow_made w cur cap hb (by simp[maxLen];omega) hs,fun k x hx=>by simp at hx⟩
theorem Fr.grown{w W W':World}{L:List (Nat×List Value)}{row:Option Nat}(h:Fr w W L)(hg:W.grownBy W' row)(hr:∀k,row=some k->w.heap.size<=k/\∀b vs,(b,vs)∈L->b≠k):Fr w W' L:=⟨h.bl.grown hg h.bl.size (fun k hk=>(hr k hk).1),fun b vs hm i u hu=>by exact adY,fun b vs hm=>Nat.lt_of_lt_of_le (h.lt b vs hm) hg.size,h.ge⟩
theorem qC.moreL{w:World}{M:List Nat}{A:Option Addr}{n c:Nat}{l:List Rt}(h:qC w M A n c l):∀(L:List Nat),(∀k,k∈L->w.heap.size<=k)->qC w (L++M) A n c l
 | [],_=>h
 |b::L,hL=>(qC.moreL h L (fun k hk=>hL k (List.mem_cons_of_mem _ hk))).more (hL b List.mem_cons_self)
theorem E_.moreL{w:World}{M:List Nat}{A:Option Addr}{n c:Nat}{l:List Rg}(h:E_ w M A n c l):∀(L:List Nat),(∀k,k∈L->w.heap.size<=k)->E_ w (L++M) A n c l
 | [],_=>h
 |b::L,hL=>(E_.moreL h L (fun k hk=>hL k (List.mem_cons_of_mem _ hk))).more (hL b List.mem_cons_self)
theorem QC.less{w:World}{M M':List Nat}{r:Rt}{p q:Bool}{A B:Option Addr}{n c m d:Nat}(h:QC w M r p q A n c B m d)(hs:∀k,k∈M'->k∈M):QC w M' r p q A n c B m d:=⟨⟨h.num.neg,h.num.sl.less hs⟩,⟨h.den.neg,h.den.sl.less hs⟩⟩
theorem qC.less{w:World}{M M':List Nat}{A:Option Addr}{n c:Nat}{l:List Rt}(h:qC w M A n c l)(hs:∀k,k∈M'->k∈M):qC w M' A n c l:=⟨h.len,h.small,fun{k} hk=>by obtain⟨b',o,p,q,A1,n1,c1,A2,n2,c2,rfl,hc,qc⟩:=h.at_ hk;exact⟨b',o,p,q,A1,n1,c1,A2,n2,c2,rfl,hc,⟨qc.num.neg,qc.num.sl.less hs⟩,⟨qc.den.neg,qc.den.sl.less hs⟩⟩⟩
namespace U
section
variable {F:Fence}{n:Nat}{P:Program}{Mr:Nat}{Q:Exit→Act→World→Prop}
def ND(F:Fence)(n:Nat)(P:Program)(Mr:Nat)(ops:Array Oper)(Q:Exit->Act->World->Prop)(n0 f:Nat)(listed:Array Bool)(a:Act)(w:World)(i:Nat):Prop:=(Region.ready .any ops listed).contains i=true->i<n0/\wpOpIn F n P ops Q i (fun a' w'=>U.Keeps Mr w w'/\U.nH F n P Mr ops Q n0 f (listed.setIfInBounds i true) a' w') a w
theorem ND.no{ops:Array Oper}{a:Act}{w:World}(h:(Region.ready .any ops listed).contains i=false:=by decide+kernel):ND F n P Mr ops Q n0 f listed a w i:=fun e=>by rw[h]at e;cases e
theorem ND.mk{l:List Oper}{n0 f:Nat}{listed:Array Bool}{a:Act}{w:World}(i:Nat){o:Oper}
 (h:∀K:Act->World->Prop,(∀a' w',U.Keeps Mr w w'/\U.nH F n P Mr l.toArray Q n0 f (listed.setIfInBounds i true) a' w'->K a' w')->o.wpIn F n P a w K Q) (hi:i<n0:=by decide) (ho:l[i]?=some o:=by exact rfl)
 (hw:Region.wanted o (yielded l.toArray a.tmps)=true:=by exact ac8):ND F n P Mr l.toArray Q n0 f listed a w i:=fun _=>by
 refine⟨hi,?_⟩;unfold wpOpIn;exact adF
end
attribute [irreducible] ND
end U
theorem Fr.lst{w:World}{b:Nat}{vs:List Value}(h:Fr w W (L++ [(b,vs)])):b<W.heap.size:=h.lt b vs (by simp)
attribute [local go_sem] Oper.semAt_some
structure MS(w V:World)(M:List Nat)(L:List (Nat×List Value))(va vl vh:Value)(x lo hi:Rt):Prop where
 fr:Fr w V L
 bel:b_ M V
 qr:QW V M va x
 ql:QW V M vl lo
 qh:QW V M vh hi
 sz:w.heap.size+2<=V.heap.size
theorem MS.go{w V V':World}{M:List Nat}{L:List (Nat×List Value)}{va vl vh:Value}{x lo hi:Rt}(h:MS w V M L va vl vh x lo hi)(hb:Below V.heap.size V V'):MS w V' M L va vl vh x lo hi:=⟨h.fr.go hb,h.bel.le hb.size,h.qr.go hb,h.ql.go hb,h.qh.go hb,Nat.le_trans h.sz hb.size⟩
theorem QW.more{w:World}{M:List Nat}{v:Value}{r:Rt}{b:Nat}(h:QW w M v r)(hb:w.heap.size<=b):QW w (b::M) v r:=by obtain⟨A,n,c,B,m,d,rfl,h1,h2⟩:=h;exact⟨A,n,c,B,m,d,rfl,h1.more hb,h2.more hb⟩
theorem MS.al{w:World}{M:List Nat}{va vl vh:Value}{lo hi:Rt}(h:MS w V M L va vl vh x lo hi)(hb:Below V.heap.size V V')(hf:Fr w V' L')(hy:y=V.heap.size)(hl:y<V'.heap.size):MS w V' (y::M) L' va vl vh x lo hi:=by subst hy;exact⟨hf,(h.bel.le hb.size).cons hl,(h.qr.more (Nat.le_refl _)).go hb,(h.ql.more (Nat.le_refl _)).go hb,(h.qh.more (Nat.le_refl _)).go hb,Nat.le_trans h.sz hb.size⟩
theorem QC.abd{M:List Nat}{r:Rt}{p q:Bool}{A B:Option Addr}{n c m:Nat}(h:QC V (y::M) r p q A n c B m d)(k:Keeps [y] V V'):QC V' M r p q A n c B m d:=by have k':Keeps (y::M) V V':=k.mono (fun x hx=>by simp at hx;simp[hx]);have hl:∀k,k∈M->k∈y::M:=fun k hk=>List.mem_cons_of_mem _ hk;exact⟨⟨h.num.neg,(h.num.sl.keep k').less hl⟩,⟨h.den.neg,(h.den.sl.keep k').less hl⟩⟩
end
section
open Go.RowKit Go.Shelf
theorem Fr.sub{w:World}(h:Fr w W L)(hs:∀x,x∈L'->x∈L):Fr w W L':=⟨h.bl,fun b vs hm=>h.at_ b vs (hs _ hm),fun b vs hm=>h.lt b vs (hs _ hm),fun b vs hm=>h.ge b vs (hs _ hm)⟩
structure C8(W:World)(b o:Nat)(v0 v1 v2 v3 v4 v5 v6 v7:Value):Prop where
 c0:W.cell? ⟨b,o,none⟩=some v0
 c1:W.cell? ⟨b,o+1,none⟩=some v1
 c2:W.cell? ⟨b,o+2,none⟩=some v2
 c3:W.cell? ⟨b,o+3,none⟩=some v3
 c4:W.cell? ⟨b,o+4,none⟩=some v4
 c5:W.cell? ⟨b,o+5,none⟩=some v5
 c6:W.cell? ⟨b,o+6,none⟩=some v6
 c7:W.cell? ⟨b,o+7,none⟩=some v7
theorem C8.lt{b:Nat}(h:C8 W b o v0 v1 v2 v3 v4 v5 v6 v7):b<W.heap.size:=World.block_lt_of_cell? W _ h.c0
theorem C8.go{b:Nat}(h:C8 W b o v0 v1 v2 v3 v4 v5 v6 v7)(hb:Below W.heap.size W W'):C8 W' b o v0 v1 v2 v3 v4 v5 v6 v7:=by have hl:=h.lt;exact⟨(hb.cell (p:=⟨b,o,none⟩) hl).trans h.c0,(hb.cell (p:=⟨b,o+1,none⟩) hl).trans h.c1,(hb.cell (p:=⟨b,o+2,none⟩) hl).trans h.c2,(hb.cell (p:=⟨b,o+3,none⟩) hl).trans h.c3,(hb.cell (p:=⟨b,o+4,none⟩) hl).trans h.c4,(hb.cell (p:=⟨b,o+5,none⟩) hl).trans h.c5,(hb.cell (p:=⟨b,o+6,none⟩) hl).trans h.c6,(hb.cell (p:=⟨b,o+7,none⟩) hl).trans h.c7⟩
theorem C8.drew{b:Nat}(h:C8 W b o v0 v1 v2 v3 v4 v5 v6 v7):C8 W.drew b o v0 v1 v2 v3 v4 v5 v6 v7:=⟨h.c0,h.c1,h.c2,h.c3,h.c4,h.c5,h.c6,h.c7⟩
end
section
namespace U
open Go.RowKit Go.Shelf
attribute [local go_sem] Oper.semAt_some
end U
end
section
open Go.RowKit Go.Shelf
attribute [local go_sem] Oper.semAt_some
theorem abe{b:Nat}(h:W.cell? ⟨b,o,none⟩=some v0/\W.cell? ⟨b,o+1,none⟩=some v1/\W.cell? ⟨b,o+2,none⟩=some v2/\W.cell? ⟨b,o+3,none⟩=some v3)(hb:Below W.drew.heap.size W.drew W')(hl:b<W.heap.size):
 W'.cell? ⟨b,o,none⟩=some v0/\W'.cell? ⟨b,o+1,none⟩=some v1/\W'.cell? ⟨b,o+2,none⟩=some v2/\W'.cell? ⟨b,o+3,none⟩=some v3:=
 ⟨(hb.cell (p:=⟨b,o,none⟩) hl).trans h.1,(hb.cell (p:=⟨b,o+1,none⟩) hl).trans h.2.1,(hb.cell (p:=⟨b,o+2,none⟩) hl).trans h.2.2.1,(hb.cell (p:=⟨b,o+3,none⟩) hl).trans h.2.2.2⟩
set_option maxRecDepth 100000 in
theorem AX{p:Prop}(h:p:=by
 refine ent Tryz.func25 rfl Tryz.ntmps25 ?_;gi_wp2;refine aP [] 16 (by kernel_rfl) (by kernel_rfl) ?_;refine ay 0 ?_;refine ay 1 ?_;refine ay 2 ?_;refine ay 3 ?_;refine ay 4 ?_;refine ay 5 ?_;refine ay 6 ?_;refine ay 7 ?_;refine ay 8 ?_;refine ay 9 ?_;refine eU 10 fun K hK=>?_;gi_wp2;refine Cm (Jk (M:=(w.heap.size+1)::M) (a:=aW regs ka) (b:=aW regs kb) (X.out.2.2.1.le (w':=W1.drew) (Nat.le_refl _)) X.out.1.qw X.out.2.1.qw X.out.2.2.2.1 X.out.2.2.2.2.1 X.out.2.2.2.2.2) ?_;rintro e w5 ⟨rfl,hb5⟩;rw[HC.out];have F5:=F.out.drew.go hb5;refine op1 F5 ?_;intros;obtain⟨i0,i1,i2,i3⟩:=abe HI.out hb5 HB8.out;obtain⟨j0,j1,j2,j3⟩:=abe HJ.out hb5 HB8.out;have G5:=fB F5 (HQ.out.1.go hb5) (HQ.out.2.go hb5);clear F5;refine hK _ _ ⟨?_,?_⟩;clear hK K;·exact Keeps.of_below hb5 []
 refine lit ?_;clear hb5;refine ay 11 ?_;refine ay 12 ?_;refine ay 13 ?_;refine ay 14 ?_;refine ay 15 ?_;refine iq 0 ?_;refine tail_nil _ ?_;simp only[cu];gi_wp2;have hx:=G5.out.1.nth 1
 first
  |(obtain⟨wF,hwF,t0,t1,t2,t3,hQ,bF⟩:=nN (M:=M) (hx 0 _ rfl) (hx 1 _ rfl) (hx 2 _ rfl) (hx 3 _ rfl) G5.out.2.1.num.sl G5.out.2.1.den.sl G5.out.2.1.num.neg G5.out.2.1.den.neg G5.out.1.bl (by omega);rw[hwF];exact⟨rfl,.tuple #[.agg #[.bool p8,.slice A8 n8 c8,.bool q8,.slice B8 m8 d8],.int .i64 0],by simp[results,go_sem,t0,t1,t2,t3],_,rfl,(by rw[HR.out];exact hQ),bF⟩)
  |(obtain⟨wF,hwF,t0,t1,t2,t3,hQ,bF⟩:=nN (M:=M) (hx 0 _ rfl) (hx 1 _ rfl) (hx 2 _ rfl) (hx 3 _ rfl) G5.out.2.2.num.sl G5.out.2.2.den.sl G5.out.2.2.num.neg G5.out.2.2.den.neg G5.out.1.bl (by omega);rw[hwF];exact⟨rfl,.tuple #[.agg #[.bool p7,.slice A7 n7 c7,.bool q7,.slice B7 m7 d7],.int .i64 0],by simp[results,go_sem,t0,t1,t2,t3],_,rfl,(by rw[HR.out];exact hQ),bF⟩)):p:=h
section
variable {M:List Nat}{A B A1 A2:Option Addr}{n c m l n1 c1 n2 c2:Nat}{ins regs:List Rt}{a b x3 x4:Int}{r:RatR}{p q:Bool}{w:World}
theorem JX(hM:b_ M w)(hx:XC w M r p q A1 n1 c1 A2 n2 c2)(hr:dF r=true):
 Calls Tryz.prog 25 #[.agg #[.int .i64 1,.int .i64 a,.int .i64 b,.int .i64 x3,.int .i64 x4,.bool p,.slice A1 n1 c1,.bool q,.slice A2 n2 c2],.slice A n c,.slice B m l] w (QR w M (OE r)):=by
 refine wid ?_;obtain⟨W1,hW1,F1⟩:=nam (((Fr.nil w).a w.heap.size [.int .i64 1,.int .i64 a,.int .i64 b,.int .i64 x3,.int .i64 x4,.bool p,.slice A1 n1 c1,.bool q,.slice A2 n2 c2] 38).a4 (w.heap.size+1) 30);have FO:=F1;refine op1 FO ?_;intros;have hx1:=(hx.more (k:=w.heap.size+1) (by omega)).go F1.bl;have hM1:b_ ((w.heap.size+1)::M) W1:=(hM.le F1.bl.size).cons (F1.mJ 1);have F:=Hd F1;have hins:=F1.nth 0;clear hx hM F1 FO;have G9:=Hd2 F.out (hx1.qc hr);have qc:=hx1.qc hr;clear hx1 hM1 hins;have hx:=G9.out.1.nth 1;obtain⟨wF,hwF,t0,t1,t2,t3,hQ,bF⟩:=nN (M:=M) (hx 0 _ rfl) (hx 1 _ rfl) (hx 2 _ rfl) (hx 3 _ rfl) (x:=OE r) qc.num.sl qc.den.sl qc.num.neg qc.den.neg F.out.bl (by omega);have HW:=Iw hwF t0 t1 t2 t3 hQ bF;clear hx qc hwF t0 t1 t2 t3 hQ bF hr;refine ent Tryz.func25 rfl Tryz.ntmps25 ?_;exact adQ
theorem Kv(hM:b_ M w)(hx:XC w M r p q A1 n1 c1 A2 n2 c2)(hi:qC w M A n c ins)(ha:bf a n=true):
 Calls Tryz.prog 25 #[.agg #[.int .i64 2,.int .i64 a,.int .i64 b,.int .i64 x3,.int .i64 x4,.bool p,.slice A1 n1 c1,.bool q,.slice A2 n2 c2],.slice A n c,.slice B m l] w (QR w M (aW ins a)):=by
 refine wid ?_;obtain⟨ka,rfl,hka⟩:=bH ha;obtain⟨W1,hW1,F1⟩:=nam (((Fr.nil w).a w.heap.size [.int .i64 2,.int .i64 (ka:Int),.int .i64 b,.int .i64 x3,.int .i64 x4,.bool p,.slice A1 n1 c1,.bool q,.slice A2 n2 c2] 38).a4 (w.heap.size+1) 30);have FO:=F1;refine op1 FO ?_;intros;have hx1:=(hx.more (k:=w.heap.size+1) (by omega)).go F1.bl;have hM1:b_ ((w.heap.size+1)::M) W1:=(hM.le F1.bl.size).cons (F1.mJ 1);have F:=Hd F1;have hins:=F1.nth 0;clear hx hM F1 FO;have hl1:qC W1 ((w.heap.size+1)::M) A n c ins:=(hi.more (b:=w.heap.size+1) (by omega)).go F.out.bl;have hsm:=hl1.small;obtain⟨b9,o9,p9,q9,A9,n9,c9,B9,m9,d9,rfl,⟨h0,h1,h2,h3⟩,qc⟩:=hl1.at_ hka;have hx:=F.out.nth 1;obtain⟨wF,hwF,t0,t1,t2,t3,hQ,bF⟩:=nN (M:=M) (hx 0 _ rfl) (hx 1 _ rfl) (hx 2 _ rfl) (hx 3 _ rfl) (x:=aW ins ka) qc.num.sl qc.den.sl qc.num.neg qc.den.neg F.out.bl (by omega);have HW:=Iw hwF t0 t1 t2 t3 hQ bF;clear hx qc hwF t0 t1 t2 t3 hQ bF hi hl1 hx1 hM1 hins ha;refine ent Tryz.func25 rfl Tryz.ntmps25 ?_;gi_wp2;rw[HW.out.1];exact⟨rfl,.tuple #[.agg #[.bool p9,.slice A9 n9 c9,.bool q9,.slice B9 m9 d9],.int .i64 0],by exact afu,_,rfl,HW.out.2.2.2.2.2.1,HW.out.2.2.2.2.2.2⟩
theorem Kw(hM:b_ M w)(hx:XC w M r p q A1 n1 c1 A2 n2 c2)(hl:qC w M B m l regs)(ha:bf a m=true)(hb:bf b m=true)(oa:(aW regs a).ok)(ob:(aW regs b).ok)(hf:Fine (aW regs a) (aW regs b)):
 Calls Tryz.prog 25 #[.agg #[.int .i64 3,.int .i64 a,.int .i64 b,.int .i64 x3,.int .i64 x4,.bool p,.slice A1 n1 c1,.bool q,.slice A2 n2 c2],.slice A n c,.slice B m l] w (QR w M (Js (aW regs a) (aW regs b))):=by
 refine wid ?_;obtain⟨ka,rfl,hka⟩:=bH ha;obtain⟨kb,rfl,hkb⟩:=bH hb;obtain⟨W1,hW1,F1⟩:=nam (((Fr.nil w).a w.heap.size [.int .i64 3,.int .i64 (ka:Int),.int .i64 (kb:Int),.int .i64 x3,.int .i64 x4,.bool p,.slice A1 n1 c1,.bool q,.slice A2 n2 c2] 38).a4 (w.heap.size+1) 30);have FO:=F1;refine op1 FO ?_;intros;have hx1:=(hx.more (k:=w.heap.size+1) (by omega)).go F1.bl;have hM1:b_ ((w.heap.size+1)::M) W1:=(hM.le F1.bl.size).cons (F1.mJ 1);have F:=Hd F1;have hins:=F1.nth 0;clear hx hM F1 FO;have hl1:qC W1 ((w.heap.size+1)::M) B m l regs:=(hl.more (b:=w.heap.size+1) (by omega)).go F.out.bl;have hsm:=hl1.small;clear hl;obtain⟨b3,o3,p3,q3,A3,n3,c3,B3,m3,d3,rfl,⟨h0,h1,h2,h3⟩,qc3⟩:=hl1.at_ hka;obtain⟨b4,o4,p4,q4,A4,n4,c4,B4,m4,d4,e0,⟨k0,k1,k2,k3⟩,qc4⟩:=hl1.at_ hkb;obtain⟨rfl,rfl⟩:b3=b4/\o3=o4:=by simpa using e0
 have X:=Zw qc3.drew qc4.drew hM1 oa ob hf;have v0:=ah h0;have v1:=ah h1;have v2:=ah h2;have v3:=ah h3;have v4:=ah k0;have v5:=ah k1;have v6:=ah k2;have v7:=ah k3;have v9:=ah (hins 1 _ rfl);have v10:=ah (hins 2 _ rfl);clear hx1 hM1 qc3 qc4 h0 h1 h2 h3 k0 k1 k2 k3 e0 oa ob hf hins ha hb hl1;refine ent Tryz.func25 rfl Tryz.ntmps25 ?_;gi_wp2;refine aP [] 13 (by kernel_rfl) (by kernel_rfl) ?_;refine ay 0 ?_;refine ay 1 ?_;refine ay 2 ?_;refine ay 3 ?_;refine ay 4 ?_;refine ay 5 ?_;refine ay 6 ?_;refine ay 7 ?_;refine ay 8 ?_;refine ay 9 ?_;refine eU 10 fun K hK=>?_;gi_wp2;refine Cm (JD (M:=(w.heap.size+1)::M) (a:=aW regs ka) (b:=aW regs kb) (X.out.2.2.1.le (w':=W1.drew) (Nat.le_refl _)) X.out.1.qw X.out.2.1.qw X.out.2.2.2.1 X.out.2.2.2.2.1 X.out.2.2.2.2.2) ?_;rintro e w9 ⟨u9,rfl,z9,Ns⟩;obtain⟨p9,q9,A9,n9,c9,B9,m9,d9,rfl,jJ⟩:=QC.of z9;have F9:=F.out.drew.go Ns;refine op1 F9 ?_;intros;have G9:=Hd2 F9 jJ;clear z9 jJ F9;refine hK _ _ ⟨?_,?_⟩;clear hK K;·exact Keeps.of_below Ns []
 refine lit ?_;clear Ns;refine ay 11 ?_;refine ay 12 ?_;refine iq 2 ?_;refine jW fun K hK K' hK'=>?_;gi_wp2;refine jW fun K hK K' hK'=>?_;gi_wp2;refine tail_nil _ ?_;simp only[cu];gi_wp2;have hx:=G9.out.1.nth 1;obtain⟨wF,hwF,t0,t1,t2,t3,hQ,bF⟩:=nN (M:=M) (hx 0 _ rfl) (hx 1 _ rfl) (hx 2 _ rfl) (hx 3 _ rfl) (x:=Js (aW regs ka) (aW regs kb)) G9.out.2.num.sl G9.out.2.den.sl G9.out.2.num.neg G9.out.2.den.neg G9.out.1.bl (by omega);rw[hwF];refine⟨rfl,.tuple #[.agg #[.bool p9,.slice A9 n9 c9,.bool q9,.slice B9 m9 d9],.int .i64 0],by simp[results,go_sem,t0,t1,t2,t3],_,rfl,hQ,bF⟩
theorem Ky(hM:b_ M w)(hx:XC w M r p q A1 n1 c1 A2 n2 c2)(hl:qC w M B m l regs)(ha:bf a m=true)(hb:bf b m=true)(oa:(aW regs a).ok)(ob:(aW regs b).ok)(hf:Fine (aW regs a) (aW regs b)):
 Calls Tryz.prog 25 #[.agg #[.int .i64 4,.int .i64 a,.int .i64 b,.int .i64 x3,.int .i64 x4,.bool p,.slice A1 n1 c1,.bool q,.slice A2 n2 c2],.slice A n c,.slice B m l] w (QR w M (OG (aW regs a) (aW regs b))):=by
 refine wid ?_;obtain⟨ka,rfl,hka⟩:=bH ha;obtain⟨kb,rfl,hkb⟩:=bH hb;obtain⟨W1,hW1,F1⟩:=nam (((Fr.nil w).a w.heap.size [.int .i64 4,.int .i64 (ka:Int),.int .i64 (kb:Int),.int .i64 x3,.int .i64 x4,.bool p,.slice A1 n1 c1,.bool q,.slice A2 n2 c2] 38).a4 (w.heap.size+1) 30);have FO:=F1;refine op1 FO ?_;intros;have hx1:=(hx.more (k:=w.heap.size+1) (by omega)).go F1.bl;have hM1:b_ ((w.heap.size+1)::M) W1:=(hM.le F1.bl.size).cons (F1.mJ 1);have F:=Hd F1;have hins:=F1.nth 0;clear hx hM F1 FO;have hl1:qC W1 ((w.heap.size+1)::M) B m l regs:=(hl.more (b:=w.heap.size+1) (by omega)).go F.out.bl;have hsm:=hl1.small;clear hl;obtain⟨b3,o3,p3,q3,A3,n3,c3,B3,m3,d3,rfl,⟨h0,h1,h2,h3⟩,qc3⟩:=hl1.at_ hka;obtain⟨b4,o4,p4,q4,A4,n4,c4,B4,m4,d4,e0,⟨k0,k1,k2,k3⟩,qc4⟩:=hl1.at_ hkb;obtain⟨rfl,rfl⟩:b3=b4/\o3=o4:=by simpa using e0
 have X:=Zw qc3.drew qc4.drew hM1 oa ob hf;have v0:=ah h0;have v1:=ah h1;have v2:=ah h2;have v3:=ah h3;have v4:=ah k0;have v5:=ah k1;have v6:=ah k2;have v7:=ah k3;have v9:=ah (hins 1 _ rfl);have v10:=ah (hins 2 _ rfl);clear hx1 hM1 qc3 qc4 h0 h1 h2 h3 k0 k1 k2 k3 e0 oa ob hf hins ha hb hl1;refine ent Tryz.func25 rfl Tryz.ntmps25 ?_;gi_wp2;refine aP [] 13 (by kernel_rfl) (by kernel_rfl) ?_;refine ay 0 ?_;refine ay 1 ?_;refine ay 2 ?_;refine ay 3 ?_;refine ay 4 ?_;refine ay 5 ?_;refine ay 6 ?_;refine ay 7 ?_;refine ay 8 ?_;refine ay 9 ?_;refine eU 10 fun K hK=>?_;gi_wp2;refine Cm (JE (M:=(w.heap.size+1)::M) (a:=aW regs ka) (b:=aW regs kb) (X.out.2.2.1.le (w':=W1.drew) (Nat.le_refl _)) X.out.1.qw X.out.2.1.qw X.out.2.2.2.1 X.out.2.2.2.2.1 X.out.2.2.2.2.2) ?_;rintro e w9 ⟨u9,rfl,z9,Ns⟩;obtain⟨p9,q9,A9,n9,c9,B9,m9,d9,rfl,jJ⟩:=QC.of z9;have F9:=F.out.drew.go Ns;refine op1 F9 ?_;intros;have G9:=Hd2 F9 jJ;clear z9 jJ F9;refine hK _ _ ⟨?_,?_⟩;clear hK K;·exact Keeps.of_below Ns []
 refine lit ?_;clear Ns;refine ay 11 ?_;refine ay 12 ?_;refine iq 2 ?_;refine jW fun K hK K' hK'=>?_;gi_wp2;refine jW fun K hK K' hK'=>?_;gi_wp2;refine tail_nil _ ?_;simp only[cu];gi_wp2;have hx:=G9.out.1.nth 1;obtain⟨wF,hwF,t0,t1,t2,t3,hQ,bF⟩:=nN (M:=M) (hx 0 _ rfl) (hx 1 _ rfl) (hx 2 _ rfl) (hx 3 _ rfl) (x:=OG (aW regs ka) (aW regs kb)) G9.out.2.num.sl G9.out.2.den.sl G9.out.2.num.neg G9.out.2.den.neg G9.out.1.bl (by omega);rw[hwF];refine⟨rfl,.tuple #[.agg #[.bool p9,.slice A9 n9 c9,.bool q9,.slice B9 m9 d9],.int .i64 0],by simp[results,go_sem,t0,t1,t2,t3],_,rfl,hQ,bF⟩
theorem Kz(hM:b_ M w)(hx:XC w M r p q A1 n1 c1 A2 n2 c2)(hr:dF r=true)(hl:qC w M B m l regs)(ha:bf a m=true)(oa:(aW regs a).ok)(hf:Fine (aW regs a) (OE r)):
 Calls Tryz.prog 25 #[.agg #[.int .i64 5,.int .i64 a,.int .i64 b,.int .i64 x3,.int .i64 x4,.bool p,.slice A1 n1 c1,.bool q,.slice A2 n2 c2],.slice A n c,.slice B m l] w (QR w M (VQ (aW regs a) (OE r))):=by
 refine wid ?_;obtain⟨ka,rfl,hka⟩:=bH ha;obtain⟨W1,hW1,F1⟩:=nam (((Fr.nil w).a w.heap.size [.int .i64 5,.int .i64 (ka:Int),.int .i64 b,.int .i64 x3,.int .i64 x4,.bool p,.slice A1 n1 c1,.bool q,.slice A2 n2 c2] 38).a4 (w.heap.size+1) 30);have FO:=F1;refine op1 FO ?_;intros;have hx1:=(hx.more (k:=w.heap.size+1) (by omega)).go F1.bl;have hM1:b_ ((w.heap.size+1)::M) W1:=(hM.le F1.bl.size).cons (F1.mJ 1);have F:=Hd F1;have hins:=F1.nth 0;clear hx hM F1 FO;have hl1:qC W1 ((w.heap.size+1)::M) B m l regs:=(hl.more (b:=w.heap.size+1) (by omega)).go F.out.bl;have hsm:=hl1.small;clear hl;obtain⟨b3,o3,p3,q3,A3,n3,c3,B3,m3,d3,rfl,⟨h0,h1,h2,h3⟩,qc3⟩:=hl1.at_ hka;have qc4:=hx1.qc hr;have X:=Zw qc3.drew qc4.drew hM1 oa (He hr) hf;have v0:=ah h0;have v1:=ah h1;have v2:=ah h2;have v3:=ah h3;have v9:=ah (hins 1 _ rfl);have v10:=ah (hins 5 _ rfl);have v11:=ah (hins 6 _ rfl);have v12:=ah (hins 7 _ rfl);have v13:=ah (hins 8 _ rfl);clear hx1 hM1 qc3 qc4 h0 h1 h2 h3 oa hf hins ha hr hl1;refine ent Tryz.func25 rfl Tryz.ntmps25 ?_;gi_wp2;refine aP [] 10 (by kernel_rfl) (by kernel_rfl) ?_;refine ay 0 ?_;refine ay 1 ?_;refine ay 2 ?_;refine ay 3 ?_;refine ay 4 ?_;refine ay 5 ?_;refine ay 6 ?_;refine eU 7 fun K hK=>?_;gi_wp2;refine Cm (Jl (M:=(w.heap.size+1)::M) (a:=aW regs ka) (b:=OE r) (X.out.2.2.1.le (w':=W1.drew) (Nat.le_refl _)) X.out.1.qw X.out.2.1.qw X.out.2.2.2.1 X.out.2.2.2.2.1 X.out.2.2.2.2.2) ?_;rintro e w9 ⟨u9,rfl,z9,Ns⟩;obtain⟨p9,q9,A9,n9,c9,B9,m9,d9,rfl,jJ⟩:=QC.of z9;have F9:=F.out.drew.go Ns;refine op1 F9 ?_;intros;have G9:=Hd2 F9 jJ;clear z9 jJ F9;refine hK _ _ ⟨?_,?_⟩;clear hK K;·exact Keeps.of_below Ns []
 refine lit ?_;clear Ns;refine ay 8 ?_;refine ay 9 ?_;refine iq 2 ?_;refine jW fun K hK K' hK'=>?_;gi_wp2;refine jW fun K hK K' hK'=>?_;gi_wp2;refine tail_nil _ ?_;simp only[cu];gi_wp2;have hx:=G9.out.1.nth 1;obtain⟨wF,hwF,t0,t1,t2,t3,hQ,bF⟩:=nN (M:=M) (hx 0 _ rfl) (hx 1 _ rfl) (hx 2 _ rfl) (hx 3 _ rfl) (x:=VQ (aW regs ka) (OE r)) G9.out.2.num.sl G9.out.2.den.sl G9.out.2.num.neg G9.out.2.den.neg G9.out.1.bl (by omega);rw[hwF];refine⟨rfl,.tuple #[.agg #[.bool p9,.slice A9 n9 c9,.bool q9,.slice B9 m9 d9],.int .i64 0],by simp[results,go_sem,t0,t1,t2,t3],_,rfl,hQ,bF⟩
theorem KE(hM:b_ M w)(hx:XC w M r p q A1 n1 c1 A2 n2 c2)(hl:qC w M B m l regs)(ha:bf a m=true)(hb:bf b m=true)(oa:(aW regs a).ok)(ob:(aW regs b).ok)(hf:Fine (aW regs a) (aW regs b)):
 Calls Tryz.prog 25 #[.agg #[.int .i64 6,.int .i64 a,.int .i64 b,.int .i64 x3,.int .i64 x4,.bool p,.slice A1 n1 c1,.bool q,.slice A2 n2 c2],.slice A n c,.slice B m l] w (QR w M (yc (aW regs a) (aW regs b))):=by
 refine wid ?_
 first
  |rw[<-xU]
  |rw[<-xU (aW regs a) (aW regs b)]
 obtain⟨ka,rfl,hka⟩:=bH ha;obtain⟨kb,rfl,hkb⟩:=bH hb;obtain⟨W1,hW1,F1⟩:=nam (((Fr.nil w).a w.heap.size [.int .i64 6,.int .i64 (ka:Int),.int .i64 (kb:Int),.int .i64 x3,.int .i64 x4,.bool p,.slice A1 n1 c1,.bool q,.slice A2 n2 c2] 38).a4 (w.heap.size+1) 30);have FO:=F1;refine op1 FO ?_;intros;have hx1:=(hx.more (k:=w.heap.size+1) (by omega)).go F1.bl;have hM1:b_ ((w.heap.size+1)::M) W1:=(hM.le F1.bl.size).cons (F1.mJ 1);have F:=Hd F1;have hins:=F1.nth 0;clear hx hM F1 FO;have hl1:qC W1 ((w.heap.size+1)::M) B m l regs:=(hl.more (b:=w.heap.size+1) (by omega)).go F.out.bl;have hsm:=hl1.small;clear hl;obtain⟨b3,o3,p3,q3,A3,n3,c3,B3,m3,d3,rfl,⟨h0,h1,h2,h3⟩,qc3⟩:=hl1.at_ hka;obtain⟨b4,o4,p4,q4,A4,n4,c4,B4,m4,d4,e0,⟨k0,k1,k2,k3⟩,qc4⟩:=hl1.at_ hkb;obtain⟨rfl,rfl⟩:b3=b4/\o3=o4:=by simpa using e0
 have X:=Zw qc3.drew qc4.drew hM1 oa ob hf;have v0:=ah h0;have v1:=ah h1;have v2:=ah h2;have v3:=ah h3;have v4:=ah k0;have v5:=ah k1;have v6:=ah k2;have v7:=ah k3;have v9:=ah (hins 1 _ rfl);have v10:=ah (hins 2 _ rfl);obtain⟨b8,o8,p8,q8,A8,n8,c8,B8,m8,d8,e8,Qj,PL⟩:=hl1.at_ hka;obtain⟨rfl,rfl⟩:b3=b8/\o3=o8:=by simpa using e8
 obtain⟨b7,o7,p7,q7,A7,n7,c7,B7,m7,d7,e7,Xw,Xx⟩:=hl1.at_ hkb;obtain⟨rfl,rfl⟩:b3=b7/\o3=o7:=by simpa using e7
 have HI:=Hd Qj;have HJ:=Hd Xw;have HQ:=Hd2 PL.drew Xx.drew;have HB8:=Hd (World.block_lt_of_cell? W1 _ Qj.1);obtain⟨cc,hcc⟩:=aC (rW (aW regs ka) (aW regs kb));have HC:=Hd hcc;obtain⟨R,hR⟩:=aC (if rW (aW regs (ka:Int)) (aW regs (kb:Int))<=0 then aW regs (ka:Int)else aW regs (kb:Int));rw[hR];rw[hcc]at hR;clear hx1 hM1 qc3 qc4 Xx PL h0 h1 h2 h3 k0 k1 k2 k3 e0 e7 e8 Xw Qj oa ob hf hins ha hb hl1 hcc;by_cases hc:cc<=0;·exact adZ
 ·exact adW
theorem KG(hM:b_ M w)(hx:XC w M r p q A1 n1 c1 A2 n2 c2)(hl:qC w M B m l regs)(ha:bf a m=true)(hb:bf b m=true)(oa:(aW regs a).ok)(ob:(aW regs b).ok)(hf:Fine (aW regs a) (aW regs b)):
 Calls Tryz.prog 25 #[.agg #[.int .i64 7,.int .i64 a,.int .i64 b,.int .i64 x3,.int .i64 x4,.bool p,.slice A1 n1 c1,.bool q,.slice A2 n2 c2],.slice A n c,.slice B m l] w (QR w M (yh (aW regs a) (aW regs b))):=by
 refine wid ?_
 first
  |rw[<-xX oa ob]
  |rw[<-xX oa ob (aW regs a) (aW regs b)]
 obtain⟨ka,rfl,hka⟩:=bH ha;obtain⟨kb,rfl,hkb⟩:=bH hb;obtain⟨W1,hW1,F1⟩:=nam (((Fr.nil w).a w.heap.size [.int .i64 7,.int .i64 (ka:Int),.int .i64 (kb:Int),.int .i64 x3,.int .i64 x4,.bool p,.slice A1 n1 c1,.bool q,.slice A2 n2 c2] 38).a4 (w.heap.size+1) 30);have FO:=F1;refine op1 FO ?_;intros;have hx1:=(hx.more (k:=w.heap.size+1) (by omega)).go F1.bl;have hM1:b_ ((w.heap.size+1)::M) W1:=(hM.le F1.bl.size).cons (F1.mJ 1);have F:=Hd F1;have hins:=F1.nth 0;clear hx hM F1 FO;have hl1:qC W1 ((w.heap.size+1)::M) B m l regs:=(hl.more (b:=w.heap.size+1) (by omega)).go F.out.bl;have hsm:=hl1.small;clear hl;obtain⟨b3,o3,p3,q3,A3,n3,c3,B3,m3,d3,rfl,⟨h0,h1,h2,h3⟩,qc3⟩:=hl1.at_ hka;obtain⟨b4,o4,p4,q4,A4,n4,c4,B4,m4,d4,e0,⟨k0,k1,k2,k3⟩,qc4⟩:=hl1.at_ hkb;obtain⟨rfl,rfl⟩:b3=b4/\o3=o4:=by simpa using e0
 have X:=Zw qc3.drew qc4.drew hM1 oa ob hf;have v0:=ah h0;have v1:=ah h1;have v2:=ah h2;have v3:=ah h3;have v4:=ah k0;have v5:=ah k1;have v6:=ah k2;have v7:=ah k3;have v9:=ah (hins 1 _ rfl);have v10:=ah (hins 2 _ rfl);obtain⟨b8,o8,p8,q8,A8,n8,c8,B8,m8,d8,e8,Qj,PL⟩:=hl1.at_ hkb;obtain⟨rfl,rfl⟩:b3=b8/\o3=o8:=by simpa using e8
 obtain⟨b7,o7,p7,q7,A7,n7,c7,B7,m7,d7,e7,Xw,Xx⟩:=hl1.at_ hka;obtain⟨rfl,rfl⟩:b3=b7/\o3=o7:=by simpa using e7
 have HI:=Hd Qj;have HJ:=Hd Xw;have HQ:=Hd2 PL.drew Xx.drew;have HB8:=Hd (World.block_lt_of_cell? W1 _ Qj.1);obtain⟨cc,hcc⟩:=aC (rW (aW regs ka) (aW regs kb));have HC:=Hd hcc;obtain⟨R,hR⟩:=aC (if rW (aW regs (ka:Int)) (aW regs (kb:Int))<=0 then aW regs (kb:Int)else aW regs (ka:Int));rw[hR];rw[hcc]at hR;clear hx1 hM1 qc3 qc4 Xx PL h0 h1 h2 h3 k0 k1 k2 k3 e0 e7 e8 Xw Qj oa ob hf hins ha hb hl1 hcc;by_cases hc:cc<=0;·exact adZ
 ·exact adW
theorem KJ(hM:b_ M w)(hx:XC w M r p q A1 n1 c1 A2 n2 c2)(hl:qC w M B m l regs)(ha:bf a m=true)(hb:bf b m=true)(hy:bf x3 m=true)(hz:bf x4 m=true)(oa:(aW regs a).ok)(ob:(aW regs b).ok)(hf:Fine (aW regs a) (aW regs b)):
 Calls Tryz.prog 25 #[.agg #[.int .i64 8,.int .i64 a,.int .i64 b,.int .i64 x3,.int .i64 x4,.bool p,.slice A1 n1 c1,.bool q,.slice A2 n2 c2],.slice A n c,.slice B m l] w (QR w M (if rW (aW regs a) (aW regs b)<=0 then aW regs x3 else aW regs x4)):=by
 refine wid ?_;obtain⟨ka,rfl,hka⟩:=bH ha;obtain⟨kb,rfl,hkb⟩:=bH hb;obtain⟨ky,rfl,hky⟩:=bH hy;obtain⟨kz,rfl,hkz⟩:=bH hz;obtain⟨W1,hW1,F1⟩:=nam (((Fr.nil w).a w.heap.size [.int .i64 8,.int .i64 (ka:Int),.int .i64 (kb:Int),.int .i64 (ky:Int),.int .i64 (kz:Int),.bool p,.slice A1 n1 c1,.bool q,.slice A2 n2 c2] 38).a4 (w.heap.size+1) 30);have FO:=F1;refine op1 FO ?_;intros;have hx1:=(hx.more (k:=w.heap.size+1) (by omega)).go F1.bl;have hM1:b_ ((w.heap.size+1)::M) W1:=(hM.le F1.bl.size).cons (F1.mJ 1);have F:=Hd F1;have hins:=F1.nth 0;clear hx hM F1 FO;have hl1:qC W1 ((w.heap.size+1)::M) B m l regs:=(hl.more (b:=w.heap.size+1) (by omega)).go F.out.bl;have hsm:=hl1.small;clear hl;obtain⟨b3,o3,p3,q3,A3,n3,c3,B3,m3,d3,rfl,⟨h0,h1,h2,h3⟩,qc3⟩:=hl1.at_ hka;obtain⟨b4,o4,p4,q4,A4,n4,c4,B4,m4,d4,e0,⟨k0,k1,k2,k3⟩,qc4⟩:=hl1.at_ hkb;obtain⟨rfl,rfl⟩:b3=b4/\o3=o4:=by simpa using e0
 have X:=Zw qc3.drew qc4.drew hM1 oa ob hf;have v0:=ah h0;have v1:=ah h1;have v2:=ah h2;have v3:=ah h3;have v4:=ah k0;have v5:=ah k1;have v6:=ah k2;have v7:=ah k3;have v9:=ah (hins 1 _ rfl);have v10:=ah (hins 2 _ rfl);obtain⟨b8,o8,p8,q8,A8,n8,c8,B8,m8,d8,e8,Qj,PL⟩:=hl1.at_ hky;obtain⟨rfl,rfl⟩:b3=b8/\o3=o8:=by simpa using e8
 obtain⟨b7,o7,p7,q7,A7,n7,c7,B7,m7,d7,e7,Xw,Xx⟩:=hl1.at_ hkz;obtain⟨rfl,rfl⟩:b3=b7/\o3=o7:=by simpa using e7
 have HI:=Hd Qj;have HJ:=Hd Xw;have HQ:=Hd2 PL.drew Xx.drew;have HB8:=Hd (World.block_lt_of_cell? W1 _ Qj.1);obtain⟨cc,hcc⟩:=aC (rW (aW regs ka) (aW regs kb));have HC:=Hd hcc;obtain⟨R,hR⟩:=aC (if rW (aW regs (ka:Int)) (aW regs (kb:Int))<=0 then aW regs (ky:Int)else aW regs (kz:Int));rw[hR];rw[hcc]at hR;clear hx1 hM1 qc3 qc4 Xx PL h0 h1 h2 h3 k0 k1 k2 k3 e0 e7 e8 Xw Qj oa ob hf hins ha hb hl1 hcc;clear hy hz;by_cases hc:cc<=0;·exact adZ
 ·exact adW
end
end
section
open Go.RowKit Go.Shelf
theorem wP.fine{l:List Rt}(h:wP l){a b:Int}(ha:bf a l.length=true)(hb:bf b l.length=true):Fine (aW l a) (aW l b):=(h.ref ha).2.fine (h.ref hb).2
theorem zU{r:RatR}(hr:dF r=true)(h:Few3 r):Sh (OE r):=(TV hr h).2
def opF(o:Nat):Nat:=if o=1 then 42 else if o=2 then 43 else if o=3 then 44 else if o=4 then 46 else if o=5 then 48 else if o=6 then 50 else if o=7 then 52 else 53
section
variable {M:List Nat}{A B A1 A2:Option Addr}{n c m l n1 c1 n2 c2:Nat}{a b x3 x4:Int}{r:RatR}{p q:Bool}{w:World}
theorem AY{mb:Nat}{ins regs:List Rt}(hM:b_ M w)(hm:ou w M mb A n c B m l ins regs)(hx:XC w M r p q A1 n1 c1 A2 n2 c2)(hr:aj m n ((o:Int),a,b,x3,x4,r)=true)(hf:Few3 r)(hs:wP regs):
 Calls Tryz.prog (opF o) #[.pointer (some ⟨mb,0,none⟩),.agg #[.int .i64 (o:Int),.int .i64 a,.int .i64 b,.int .i64 x3,.int .i64 x4,.bool p,.slice A1 n1 c1,.bool q,.slice A2 n2 c2]] w (QR w M (rG ins regs ((o:Int),a,b,x3,x4,r))):=by
 have hl:regs.length=m:=hm.sr.len;have hn:ins.length=n:=hm.si.len;have up:∀{i:Int},bf i (m:Int)=true->bf i regs.length=true:=fun h=>by rw[hl];exact h
 rcases rZ hr with⟨e,h1⟩|⟨e,h1⟩|⟨h3,h1,h2⟩|⟨e,h1,h2⟩|⟨e,h1,h2,h4,h5⟩
 ·obtain rfl:o=1:=by omega
  exact PN hM hm hx h1
 ·obtain rfl:o=2:=by omega
  exact PO hM hm hx h1
 ·have h3':o=3\/o=4\/o=6\/o=7:=by omega
  have oa:=(hs.ref (up h1)).1;have ob:=(hs.ref (up h2)).1;have hf:=hs.fine (up h1) (up h2);rcases h3' with rfl|rfl|rfl|rfl;·exact PS hM hm hx h1 h2 oa ob hf
  ·exact P_ hM hm hx h1 h2 oa ob hf
  ·exact Qb hM hm hx h1 h2 oa ob hf
  exact Qc hM hm hx h1 h2 oa ob hf
 ·obtain rfl:o=5:=by omega
  exact Qa hM hm hx h2 h1 (hs.ref (up h1)).1 ((hs.ref (up h1)).2.fine (zU h2 hf))
 ·obtain rfl:o=8:=by omega
  exact Qi hM hm hx h1 h2 h4 h5 (hs.ref (up h1)).1 (hs.ref (up h2)).1 (hs.fine (up h1) (up h2))
theorem KL{ins regs:List Rt}(hM:b_ M w)(hi:qC w M A n c ins)(hl:qC w M B m l regs)(hx:XC w M r p q A1 n1 c1 A2 n2 c2)(hr:aj m n ((o:Int),a,b,x3,x4,r)=true)(hf:Few3 r)(hs:wP regs):
 Calls Tryz.prog 25 #[.agg #[.int .i64 (o:Int),.int .i64 a,.int .i64 b,.int .i64 x3,.int .i64 x4,.bool p,.slice A1 n1 c1,.bool q,.slice A2 n2 c2],.slice A n c,.slice B m l] w (QR w M (rG ins regs ((o:Int),a,b,x3,x4,r))):=by
 have hle:regs.length=m:=hl.len;have up:∀{i:Int},bf i (m:Int)=true->bf i regs.length=true:=fun h=>by rw[hle];exact h
 rcases rZ hr with⟨e,h1⟩|⟨e,h1⟩|⟨h3,h1,h2⟩|⟨e,h1,h2⟩|⟨e,h1,h2,h4,h5⟩
 ·obtain rfl:o=1:=by omega
  exact JX hM hx h1
 ·obtain rfl:o=2:=by omega
  exact Kv hM hx hi h1
 ·have h3':o=3\/o=4\/o=6\/o=7:=by omega
  have oa:=(hs.ref (up h1)).1;have ob:=(hs.ref (up h2)).1;have hf:=hs.fine (up h1) (up h2);rcases h3' with rfl|rfl|rfl|rfl;·exact Kw hM hx hl h1 h2 oa ob hf
  ·exact Ky hM hx hl h1 h2 oa ob hf
  ·exact KE hM hx hl h1 h2 oa ob hf
  exact KG hM hx hl h1 h2 oa ob hf
 ·obtain rfl:o=5:=by omega
  exact Kz hM hx h2 hl h1 (hs.ref (up h1)).1 ((hs.ref (up h1)).2.fine (zU h2 hf))
 ·obtain rfl:o=8:=by omega
  exact KJ hM hx hl h1 h2 h4 h5 (hs.ref (up h1)).1 (hs.ref (up h2)).1 (hs.fine (up h1) (up h2))
end
end
end Go.Proofs.YtefnknhjlejalaaGreatDoor
