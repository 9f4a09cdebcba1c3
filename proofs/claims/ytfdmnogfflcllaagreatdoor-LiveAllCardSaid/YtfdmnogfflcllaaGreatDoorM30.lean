/- Lemmas -/
import Derived.Test.YtfdmnogfflcllaaGreatDoorM27
import Derived.Test.YtfdmnogfflcllaaGreatDoorM29
set_option linter.all false
set_option maxRecDepth 100000
set_option maxHeartbeats 0
namespace Go.Proofs.YtfdmnogfflcllaaGreatDoor
open Go.Proofs.Tryz Go.RowKit
theorem QJ{p:Prop}(h:p:=by
 rcases cK.1 a with a|a;·have:=(h.hL b vs a).1;omega
 simp only[bz,fc]at a;have:=h.hb;omega):p:=h
variable {n k:Nat}{w0 W:World}{t:TypeId}{cs:List Value}{r:aS}{s1 s2 s3 s4 s5 s6 s7:dK}{x:aJ}
section
open Go.Shelf
structure az(M:List Nat)(o o':Option Nat)(W W':World):Prop where
 size:W.heap.size<=W'.heap.size
 block:∀k,k<W.heap.size->k∉M->o≠some k->W'.heap[k]?=W.heap[k]?
 own:o'=o\/∃k,o'=some k/\W.heap.size<=k
section
variable {M:List Nat}{o o' o'':Option Nat}{w w' w'':World}
theorem az.refl(M:List Nat)(o:Option Nat)(w:World):az M o o w w:=⟨bj _,fun _ _ _ _=>rfl,.inl rfl⟩
theorem az.trans(h:az M o o' w w')(g:az M o' o'' w' w''):az M o o'' w w'':=by
 refine⟨cF h.size g.size,fun k a b c=>?_,?_⟩
 ·refine(g.block k (bX a h.size) b fun e=>?_).trans (h.block k a b c);rcases h.own with rfl|⟨f,rfl,d⟩;·exact c e
  cases e;omega
 rcases g.own with rfl|⟨k,rfl,a⟩;·exact h.own
 exact .inr ⟨k,rfl,cF h.size a⟩
theorem az.of_below(h:Below w w w')(M:List Nat)(o:Option Nat):az M o o w w':=⟨h.size,fun k hk _ _=>h.block k hk,.inl rfl⟩
theorem az.aff(h:Keeps M w w')(o:Option Nat):az M o o w w':=⟨h.size,fun k hk hm _=>h.block k hk hm,.inl rfl⟩
end
structure KpO(K:List Nat)(w w':World):Prop where
 k:Keeps K w w'
 os:w'.os=w.os
 tape:w'.tape=w.tape
 output:w'.output=w.output
section
variable {K K':List Nat}{w w' w'':World}
theorem KpO.refl(K:List Nat)(w:World):KpO K w w:=⟨cG _ _,rfl,rfl,rfl⟩
theorem KpO.trans(h:KpO K w w')(g:KpO K w' w''):KpO K w w'':=⟨h.k.trans g.k,g.os.trans h.os,g.tape.trans h.tape,g.output.trans h.output⟩
theorem KpO.mono(h:KpO K w w')(hs:∀x,x∈K->x∈K'):KpO K' w w':=⟨h.k.mono hs,h.os,h.tape,h.output⟩
theorem KpO.of_below(h:Below w w w')(K:List Nat):KpO K w w':=⟨bq h K,h.os,h.tape,h.output⟩
theorem KpO.setCell(h:KpO K w w'){p:Addr}(hp:p.block∈K\/w.heap.size<=p.block)(u:Value):KpO K w (w'.setCell p u):=⟨h.k.setCell hp u,h.os,h.tape,h.output⟩
theorem KpO.alloc(h:KpO K w w')(o:Obj):KpO K w (w'.alloc o):=⟨h.k.alloc o,h.os,h.tape,h.output⟩
theorem KpO.drew(h:KpO K w w'):KpO K w w'.drew:=⟨h.k.drew,h.os,h.tape,h.output⟩
theorem KpO.below(h:KpO K w w')(hK:∀q,q∈K->n<=q)(hn:n<=w.heap.size):Below n w w':=⟨h.os,h.tape,h.output,h.k.size,fun q hq=>h.k.block q (bX hq hn) fun hm=>by have:=hK q hm;omega⟩
end
def ac9{α:Type}(g:Nat)(lb:Array Value)(val:α->Array Value)(St:α->World->Prop)(M N:List Nat)(xs:List α)(w0:World):Prop:=
 ∀(l:Nat) (J:List α->Option Nat->World->Prop) (W:World),
  Keeps M w0 W->(∀r o W W',J r o W->KpO N W W'->J r o W')->(∀r k W,J r (some k) W->w0.heap.size<=k/\k<W.heap.size)->J xs none W->
  (∀x rest o W1,St x W1->J (x::rest) o W1->YieldAt Wd 8 prog l (val x) W1 fun e W2=>e=.returned true/\∃o',J rest o' W2/\az M o o' W1 W2)->
  CallsIn Wd 9 prog g (#[.func (.yield l) #[] #[]]++lb) W fun e W'=>(∃v,e=.returned v)/\∃o',J [] o' W'
def aez{α:Type}(M:List Nat)(o:Option Nat)(I:List α->Option Nat->World->Prop)(rest:List α)(W:World):Exit->Act->World->Prop
 | .normal,_,W'=>∃o',I rest o' W'/\az M o o' W W'
 |_,_,_=>False
theorem acS{g:Operand}{ps:Array Tmp}{assign body:Code}{Q:Exit->Act->World->Prop}{a:Act}{w:World}
 {gf:Nat}{lb:Array Value}(hg:a.eval g=.func (.func gf) #[] lb) (eg:∀args w,(callFunc gf args).run prog w=.ok (.enter gf args) w)
 {α:Type}{val:α->Array Value}{St:α->World->Prop}{M N:List Nat}{xs:List α}(hseq:ac9 gf lb val St M N xs w0) (hk0:Keeps M w0 w) (hM:∀k,k∈M->k<w.heap.size) (hN:∀k,k∈N->k<w.heap.size) (hps:∀x,(val x).size=ps.size)
 (I:List α->Option Nat->World->Prop)
 (hI:∀r o W W',(∃c,W.heap[w.heap.size+1]?=some (.loop c))->I r o W->KpO ((w.heap.size+1)::N) W W'->I r o W')
 (hIo:∀r k W,I r (some k) W->w0.heap.size<=k/\∃c,W.heap[k]?=some c/\c.isCells=true)
 (hIn:∀r o W W',I r o W->KpO N W W'->I r o W') (h0:I xs none w)
 (mO:∀x rest o W,(∃r,W.heap[w.heap.size+1]?=some (.loop r))->St x W->I (x::rest) o W->
   assign.wpIn (Wd.inRound (w.heap.size+1)) 8 prog (Exit.then (fun a' W'=>Keeps M W W'/\
    ∀W'',(∃r,W''.heap[w.heap.size+1]?=some (.loop r))->KpO [w.heap.size+1] W' W''->body.wpIn (Wd.inRound (w.heap.size+1)) 8 prog (aez M o I rest W'') a' W'') (fun _ _ _=>False))
    { tmps:=(ps.zip (val x)).foldl (fun t (p,v)=>t.setIfInBounds p v) a.tmps,defers:= [] } W)
 (hdone:∀o W,I [] o W->W.heap[w.heap.size]?=some (.deferred (some []))->Q .normal { a with defers:={ target:=.collected w.heap.size,args:=#[] }::a.defers } W):
 (Code.rangeFunc g ps assign body).wpIn Wd 10 prog Q a w:=by
 refine wpIn_rangeFunc ?_;intro fn ak;rw[show Wd.round=none from rfl];obtain⟨d,m⟩:∃d:LoopState->Option Code->Loop,d=fun st pe=>{ state:=st,pending:=pe,fn,tmps:=a.tmps,params:=ps,assign,body,defers:=w.heap.size }:=⟨_,rfl⟩;obtain⟨W1,B⟩:=aC ((w.alloc (.deferred (some []))).alloc (.loop (d .ready none)));have ar:W1.heap.size=w.heap.size+2:=by rw[<-B];simp
 have ag:W1.heap[w.heap.size+1]?=some (.loop (d .ready none)):=by rw[<-B];have:=lz (w.alloc (.deferred (some []))) (.loop (d .ready none));rwa [World.size_alloc]at this
 have af:W1.heap[w.heap.size]?=some (.deferred (some [])):=by rw[<-B];exact(mI _ _ _ po).trans (lz w _)
 have ab:∀M',KpO M' w W1:=fun M'=>by rw[<-B];exact((KpO.refl M' w).alloc _).alloc _
 have E:w.heap.size+1∉M/\w.heap.size∉M:=⟨fun e=>by have:=hM _ e;omega,fun e=>by have:=hM _ e;omega⟩;have X:w.heap.size+1∉N/\w.heap.size∉N:=⟨fun e=>by have:=hN _ e;omega,fun e=>by have:=hN _ e;omega⟩;have ae:∀{r:List α}{o:Option Nat}{W:World}{z:Obj}{k:Nat},I r o W->W.heap[k]?=some z->z.isCells=false->o≠some k:=by rintro r o W z k l f hc rfl;obtain⟨-,c,s,F⟩:=hIo _ _ _ l;rw[f]at s;cases s;rw[hc]at F;cases F
 have J:∀(W:World) (z:Obj),KpO [w.heap.size+1] W (W.putObj (w.heap.size+1) z):=fun W z=>⟨⟨by rw[kh];exact bj _,fun k _ G=>fz (fun e=>G (by simp[e]))⟩,rfl,rfl,rfl⟩;refine⟨w+1, [{ target:=.collected w.heap.size,args:=#[] }],W1,{ target:=.fn (.func gf) lb,args:=#[.func (.yield (w.heap.size+1)) #[] #[]] },W1,gf,#[.func (.yield (w.heap.size+1)) #[] #[]]++lb,W1,?_,?_,?_,?_,fun _=>by omega,?_⟩;·rw[<-B,m];exact run_enterLoop_outer _ _ _ _ _
 ·simp only[resolve,hg];simp[go_sem]
 ·intro f' aa;simp[Target.leads]at aa;subst aa;trivial
 ·simp[invoke,go_sem,eg]
 ·refine(hseq (w.heap.size+1)
    (fun r o W=>I r o W/\W.heap[w.heap.size+1]?=some (.loop (d .ready none))/\W.heap[w.heap.size]?=some (.deferred (some [])))
    W1 (hk0.trans (ab M).k)
    (fun r o W W' h f=>⟨hIn r o W W' h.1 f,(f.k.block _ (cR.1 h.2.1).1 X.1).trans h.2.1,(f.k.block _ (cR.1 h.2.2).1 X.2).trans h.2.2⟩)
    (fun r k W h=>by obtain⟨s,c,F,-⟩:=hIo _ _ _ h.1;exact⟨s,(cR.1 F).1⟩)
    ⟨hIn _ _ _ _ h0 (ab N),ag,af⟩
    ?_).mono ?_
  ·
   rintro x rest o W ap ⟨l,i,A⟩;have T:=run_yield (P:=prog) (args:=val x) i (by rw[m];exact hps x);rw[m]at T;refine⟨fn,_,assign,body,T,roundIn_of_wpIn ak (wpIn_mono (mO x rest o W ⟨_,i⟩ ap l) ?_)⟩;clear T;intro e a' H b
   cases e with
   |normal=>
    obtain⟨y,hb⟩:=b;have ac:=(y.block _ (cR.1 i).1 E.1).trans i;have ah:=(y.block _ (cR.1 A).1 E.2).trans A;have am:w.heap.size+1<H.heap.size:=(cR.1 ac).1;refine⟨_,run_beginRound ac (by rw[m]),?_⟩;have R:(H.putObj (w.heap.size+1) (.loop { d .ready none with state:=.busy })).heap[w.heap.size+1]?=some (.loop { d .ready none with state:=.busy }):=World.putObj_heap_same am;have Y:(H.putObj (w.heap.size+1) (.loop { d .ready none with state:=.busy })).heap[w.heap.size]?=some (.deferred (some [])):=(fz pj).trans ah;refine wpIn_mono (hb _ ⟨_,R⟩ (J _ _)) ?_;rintro e a3 q b
    cases e with
    |normal=>
     obtain⟨o',al,D⟩:=b;have an:o≠some (w.heap.size+1):=ae l i rfl;have ao:o≠some w.heap.size:=ae l A rfl;have S:=(D.block _ (cR.1 R).1 E.1 an).trans R;have ai:=(D.block _ (cR.1 Y).1 E.2 ao).trans Y;have he:(Instr.endRound (w.heap.size+1) none).run prog q=.ok (.bool (none:Option Code).isNone) (q.putObj (w.heap.size+1) (.loop (d .ready none))):=by have h:=run_endRound (P:=prog) none S;rw[m]at h |-;exact h
     have ad:(q.putObj (w.heap.size+1) (.loop (d .ready none))).heap[w.heap.size+1]?=some (.loop (d .ready none)):=World.putObj_heap_same (cR.1 S).1;have aj:(q.putObj (w.heap.size+1) (.loop (d .ready none))).heap[w.heap.size]?=some (.deferred (some [])):=(fz pj).trans ai;refine⟨_,_,he,rfl,o',⟨?_,ad,aj⟩,?_⟩;·exact hI rest o' q _ ⟨_,S⟩ al ((J q _).mono po)
     ·have ks:=D.size;refine⟨?_,fun k f G ho=>?_,?_⟩;·have s:=y.size;simp only[kh]at ks |-;omega
      ·by_cases O:k=w.heap.size+1;·rw[O,ad,i]
       have aq:=y.size;rw[fz O,D.block k (by rw[kh];omega) G ho,fz O];exact y.block k f G
      rcases D.own with e|⟨k,e,f⟩;·exact .inl e
      refine .inr ⟨k,e,?_⟩;have s:=y.size;rw[kh]at f;omega
    |ret=>exact b.elim
    |exit id=>exact b.elim
    |goto t=>exact b.elim
    |panic ch=>exact b.elim
    |outgrown=>exact b.elim
   |exit id=>exact b.elim
   |goto t=>exact b.elim
   |ret=>exact b.elim
   |panic chain=>exact b.elim
   |outgrown=>exact b.elim
  ·rintro e V ⟨⟨v,rfl⟩,o',l,i,A⟩;have Z:=run_endLoop (P:=prog) i (by rw[m];simp);rw[m]at Z;refine⟨none,_,Z,hdone o' _ (hI [] o' V _ ⟨_,i⟩ l ((J V _).mono po)) ((fz pj).trans A)⟩
end
theorem ab7{w:World}{L:List (Nat×List Value)}{q:World->Prop}(h:Fr w W L)(e:∀V,At V L=q V:=by(intro V;simp only[df,d_,At,Ce,dC,Nat.reduceAdd,and_true];exact rfl)):∀V,Keeps [] W V->q V:=fun V k=>e V▸Zx L fun b vs c i u p=>by have a:=h.at_ b vs c i u p;have d:=k.block b (h.lt b vs c) po;exact⟨by rw[<-a.1];simp only[World.cell?,d],by rw[<-a.2];simp only[World.frozen?,d]⟩
structure VbR(α:Type) [kJ α] (e:TypeId)(M:List Nat)(w u:World)(L:List (Nat×List Value))(bl j:Nat)(C:Value->List Value)(v:Value)(xs:List α)(wr:World):Prop where
 own:bD α e wr (bl::M) u.heap.size v xs.length xs
 fr:Fr w wr (L++ [(bl,C v)])
 sz:u.heap.size<=wr.heap.size
 wu:w.heap.size<=u.heap.size
 bM:b_ M w
 hL:∀b vs,(b,vs)∈L->b<u.heap.size/\b≠bl
 hb:bl<u.heap.size
 hC:∀v,(C v)[j]?=some v
 hS:∀v v',(C v).set j v'=C v'
 kp:Keeps [bl] u wr
section
variable {α:Type} [kJ α] {e:TypeId}{M:List Nat}{w u wr wz:World}{L:List (Nat×List Value)}{bl j:Nat}{C:Value→List Value}{v:Value}{xs:List α}
theorem VbR.go(h:VbR α e M w u L bl j C v xs wr)(hb:Below wr wr wz):VbR α e M w u L bl j C v xs wz:=⟨h.own.go hb,h.fr.go hb,cF h.sz hb.size,h.wu,h.bM,h.hL,h.hb,h.hC,h.hS,h.kp.trans (bq hb _)⟩
theorem VbR.nil(h:Fr w u (L++ [(bl,C (.slice none 0 0))]))(hL:∀b vs,(b,vs)∈L->b≠bl)(hM:b_ M w)(hC:∀v,(C v)[j]?=some v)(hS:∀v v',(C v).set j v'=C v'):VbR α e M w u L bl j C (.slice none 0 0) [] u:=⟨bD.nil _ _ _,h,bj _,h.bl.size,hM,fun b vs hm=>⟨h.lt b vs (by simp[hm]),hL b vs hm⟩,h.lt bl (C (.slice none 0 0)) po,hC,hS,cG _ _⟩
theorem VbR.bel(h:VbR α e M w u L bl j C v xs wr):b_ (bP v++bl::M) wr:=fun q hq=>by
 rcases cK.1 hq with hq|hq;·exact(h.own.lt (bJ.1 hq)).2
 rcases cD.1 hq with rfl|hq;·exact bX h.hb h.sz
 exact bX (h.bM q hq) (cF h.wu h.sz)
theorem VbR.ge(h:VbR α e M w u L bl j C v xs wr):∀q,q∈bP v++ [bl]->w.heap.size<=q:=fun q hq=>by
 rcases cK.1 hq with hq|hq;·have:=(h.own.lt (bJ.1 hq)).1;exact cF h.wu this
 rw[bz]at hq;subst hq;exact h.fr.ge _ (C v) po
theorem VbR.no(h:VbR α e M w u L bl j C v xs wr):∀q,q<u.heap.size->q∉bP v:=fun q hq hm=>by have:=(h.own.lt (bJ.1 hm)).1;omega
theorem VbR.app(h:VbR α e M w u L bl j C v xs wr){x:α}(ht:prog.underlying t=some (.slice e))(hi:iU e (Rep.sz α))(hx:Rep.rd wr (bP v++bl::M) x cs)(hn:xs.length<=1000):
 ∃v' w',(Builtin.append_ #[t,t] t #[v,.slice (some ⟨wr,0,none⟩) 1 1]).run prog (wr.alloc (.cells cs.toArray e))=.ok v' w'/\w'.cell? ⟨bl,j,none⟩=some v/\w'.frozen? ⟨bl,j,none⟩=false/\VbR α e M w u L bl j C v' (xs++ [x]) (w'.setCell ⟨bl,j,none⟩ v')/\Keeps (bP v) (wr.alloc (.cells cs.toArray e)) w':=by
 obtain⟨v',w',z,T,d,B,A⟩:=h.own.app1 ht hi h.sz (fun q s=>h.bel q (cP _ s)) hx pj;have i:=h.fr.ZI d (fun g P=>⟨cF h.wu (h.own.lt P).1,fun b vs a e=>by have l:=(h.own.lt P).1;exact QJ⟩);have f:=i.at_ bl (C v) po j v (h.hC v);have m:∀g,v'.ownBlock=some g->g∉ [bl]:=fun g P a=>by have l:=(T.lt P).1;simp only[bz]at a;have:=h.hb;omega
 have kp:Keeps [bl] w' (w'.setCell ⟨bl,j,none⟩ v'):=(cG [bl] w').setCell (p:=⟨bl,j,none⟩) (.inl po) _;have y:wr.heap.size<=w'.heap.size:=d.size;refine⟨v',w',z,f.1,f.2,⟨?_,?_,cF h.sz (cF y kp.size),h.wu,h.bM,h.hL,h.hb,h.hC,h.hS,(h.kp.grown d fun g P=>.inr (h.own.lt P).1).setCell (p:=⟨bl,j,none⟩) (.inl po) _⟩,A⟩;·have:=T.acO kp (fun x hx=>by simp at hx;simp[hx]) m;simpa using this
 ·have:=i.qY (fun c vs a=>(h.hL c vs a).2) (h.hC v) v'
  rwa [h.hS]at this
theorem VbR.sl(h:VbR α e M w u L bl j C v xs wr)(hn:xs.length<=1000):∃A c,v=.slice A xs.length c/\Sl α wr (bl::M) A xs.length c xs:=h.own.sl pj (fun k hk=>by
 rcases cD.1 hk with rfl|hk;·exact h.hb
 exact bX (h.bM k hk) h.wu)
end
theorem aaD{α:Type} [kJ α] {e:TypeId}{w:World}{M:List Nat}{base:Nat}{v:Value}{xs:List α}(h:bD α e w M base v n xs)(hk:v.ownBlock=some k):∃c,w.heap[k]?=some c/\c.isCells=true:=by
 obtain⟨cs,b,-⟩:=h.ex;rcases b.2 with⟨rfl,-⟩|⟨g,d,f,rfl,-,a,-⟩;·cases hk
 cases hk;exact⟨_,a,rfl⟩
theorem Fr.kpo{w V:World}{L:List (Nat×List Value)}{K:List Nat}(h:Fr w V L)(k:KpO K V W)(hK:∀q,q∈K->w.heap.size<=q)(hL:∀c vs,(c,vs)∈L->c∉K):Fr w W L:=⟨h.bl.trans (k.below hK h.bl.size),fun c vs hm i u hu=>by have h1:=h.at_ c vs hm i u hu;have h2:=k.k.block c (h.lt c vs hm) (hL c vs hm);exact TJ,fun c vs hm=>bX (h.lt c vs hm) k.k.size,h.ge⟩
section
variable {α:Type} [kJ α] {e:TypeId}{M:List Nat}{w u wr wz:World}{L:List (Nat×List Value)}{bl j:Nat}{C:Value→List Value}{v:Value}{xs:List α}
theorem VbR.ajK(h:VbR α e M w u L bl j C v xs wr){x:α}(ht:prog.underlying t=some (.slice e))(hi:iU e (Rep.sz α))(hx:Rep.rd wr (bP v++bl::M) x cs)(hn:xs.length<=10000):
 ∃v' w',(Builtin.append_ #[t,t] t #[v,.slice (some ⟨wr,0,none⟩) 1 1]).run prog (wr.alloc (.cells cs.toArray e))=.ok v' w'/\w'.cell? ⟨bl,j,none⟩=some v/\w'.frozen? ⟨bl,j,none⟩=false/\VbR α e M w u L bl j C v' (xs++ [x]) (w'.setCell ⟨bl,j,none⟩ v')/\az [bl] v.ownBlock v'.ownBlock wr (w'.setCell ⟨bl,j,none⟩ v')/\Keeps (bP v) (wr.alloc (.cells cs.toArray e)) w':=by
 obtain⟨v',w',B,T,d,D,E⟩:=h.own.app1 ht hi h.sz (fun q A=>h.bel q (cP _ A)) hx pj;have l:=h.fr.ZI d (fun g P=>⟨cF h.wu (h.own.lt P).1,fun b vs a e=>by have s:=(h.own.lt P).1;exact QJ⟩);have i:=l.at_ bl (C v) po j v (h.hC v);have y:∀g,v'.ownBlock=some g->g∉ [bl]:=fun g P a=>by have s:=(T.lt P).1;simp only[bz]at a;have:=h.hb;omega
 have kp:Keeps [bl] w' (w'.setCell ⟨bl,j,none⟩ v'):=(cG [bl] w').setCell (p:=⟨bl,j,none⟩) (.inl po) _;have f:wr.heap.size<=w'.heap.size:=d.size;refine⟨v',w',B,i.1,i.2,⟨?_,?_,cF h.sz (cF f kp.size),h.wu,h.bM,h.hL,h.hb,h.hC,h.hS,(h.kp.grown d fun g P=>.inr (h.own.lt P).1).setCell (p:=⟨bl,j,none⟩) (.inl po) _⟩,⟨cF f kp.size,fun k m a z=>?_,?_⟩,E⟩;·have:=T.acO kp (fun x hx=>by simp at hx;simp[hx]) y;simpa using this
 ·have:=l.qY (fun c vs a=>(h.hL c vs a).2) (h.hC v) v'
  rwa [h.hS]at this
 ·exact(kp.block k (bX m f) a).trans (d.block k m (fun e=>z e.symm))
 ·rcases D with e|e;·exact .inl e
  exact .inr ⟨_,e,pj⟩
end
theorem VbR.kpI{e:TypeId}{M:List Nat}{w u wr wz:World}{L:List (Nat×List Value)}{bl j:Nat}{C:Value->List Value}{v:Value}{xs:List Int}(h:VbR Int e M w u L bl j C v xs wr){K:List Nat}(k:KpO K wr wz)(hK:∀q,q∈K->u.heap.size<=q)(ho:∀g,v.ownBlock=some g->g∉K):VbR Int e M w u L bl j C v xs wz:=by
 refine⟨?_,h.fr.kpo k (fun q f=>cF h.wu (hK q f)) (fun c vs d l=>?_),cF h.sz k.k.size,h.wu,h.bM,h.hL,h.hb,h.hC,h.hS,⟨cF h.kp.size k.k.size,fun q f d=>(k.k.block q (bX f h.sz) fun l=>by have:=hK q l;omega).trans (h.kp.block q f d)⟩⟩;·obtain⟨cs,p,s⟩:=h.own.ex;refine⟨h.own.len,cs,qp p (fun g P y=>k.k.block g y (ho g P)),fun i x hx=>?_⟩;obtain⟨m,a,b⟩:=s i x hx;exact⟨m,a,b⟩
 have:=hK c l;rcases cK.1 d with d|d;·have:=(h.hL c vs d).1;omega
 simp only[bz,fc]at d;have:=h.hb;omega
section
open Go.Shelf
attribute [local go_sem] cX
def aa9(nc k:Nat):List (Int×Int):=(List.range nc).map (fun(i:Nat)=>((2:Int),(i:Int)))++ [(3,0),(4,0)]++(List.range k).map (fun(i:Nat)=>((5:Int),(i:Int)))
theorem aho{nc k i:Nat}(h:i<nc):(aa9 nc k)[i]?=some (2,(i:Int)):=by unfold aa9;rw[dz,dk (by simpa using h),cM,ik h];rfl
theorem ahp{nc k:Nat}:(aa9 nc k)[nc]?=some (3,0):=by unfold aa9;rw[dz,cQ po];simp
theorem ahq{nc k:Nat}:(aa9 nc k)[nc+1]?=some (4,0):=by unfold aa9;rw[dz,cQ po];simp
theorem ahr{nc k i:Nat}(h:i<k):(aa9 nc k)[nc+2+i]?=some (5,(i:Int)):=by unfold aa9;rw[cQ po,cM];simp only[cJ,ck,gh,eh,gD];rw[show nc+2+i-(nc+(0+1+1))=i by omega,ik h];rfl
theorem acA{nc k:Nat}:(aa9 nc k).length=nc+2+k:=by simp[aa9];omega
theorem drop_at{α:Type}{l:List α}{i:Nat}{x:α}(h:l[i]?=some x):l.drop i=x::l.drop (i+1):=by obtain⟨a,rfl⟩:=bu.1 h;exact cL a
def InC(b2 b3:Nat)(A1:Option Addr)(n1 c1 k:Nat)(W:World):Prop:=W.cell? ⟨b2,1,none⟩=some (.slice A1 n1 c1)/\W.cell? ⟨b3,0,none⟩=some (.int .i64 k)
theorem adE{k:Int}{w:World}:
 Calls prog 118 #[.agg (aV r s1 s2 s3 s4 s5 s6 s7).toArray,k] w fun e w'=>e=.returned (.func (.func 167) #[] #[.pointer (some ⟨w,0,none⟩),.pointer (some ⟨w+1,0,none⟩)])/\(w.alloc (.cells (aV r s1 s2 s3 s4 s5 s6 s7).toArray 28)).alloc (.cells #[k] 3)=w':=by
 refine wid ?_;refine ent func118 ntmps118 ?_;gi_wp2;go_ret;exact⟨rfl,rfl⟩
theorem acK{b2 b3 n1 c1:Nat}{A1:Option Addr}{M:List Nat}(hc:InC b2 b3 A1 n1 c1 k w0)(m2:b2∉M)(m3:b3∉M)(hn:n1<=1000)(hk:k<=1000):
 ac9 167 #[.pointer (some ⟨b2,0,none⟩),.pointer (some ⟨b3,0,none⟩)] (fun x:Int×Int=>#[.agg #[x.1,x.2]]) (fun _ _=>True) M [] (aa9 n1 k) w0:=by
 intro l J W D ag X R mO;have l2:=bw w0 _ hc.1;have l3:=bw w0 _ hc.2;have y:=Hd (fun(r:List (Int×Int)) (o o':Option Nat) (V V':World) (Z:J r o V) (h:InC b2 b3 A1 n1 c1 k V) (ht:az M o o' V V')=>(show InC b2 b3 A1 n1 c1 k V' by
  have ne:∀b,b<w0.heap.size->o≠some b:=by rintro b hb rfl;have:=(X _ _ _ Z).1;omega
  refine⟨?_,?_⟩;·rw[eZ (w:=V) (ht.block b2 (bw V (a:=⟨b2,1,none⟩) h.1) m2 (ne _ l2))];exact h.1
  rw[eZ (w:=V) (ht.block b3 (bw V (a:=⟨b3,0,none⟩) h.2) m3 (ne _ l3))];exact h.2))
 have I:=Hd (show InC b2 b3 A1 n1 c1 k W from⟨D.cell m2 hc.1,D.cell m3 hc.2⟩);have s:=Hd mO;have N:=Hd R;have HL:=Hd (@acA n1 k);obtain⟨xs,ac⟩:=aC (aa9 n1 k);have E:=Hd (fun i (h:i<n1)=> @aho n1 k i h);have F:=Hd (@ahp n1 k);have G:=Hd (@ahq n1 k);have H:=Hd (fun i (h:i<k)=> @ahr n1 k i h);rw[ac]at HL E F G H N;clear mO R ag X D hc m2 m3 l2 l3 ac;simp only[fp,d_,df];have e1:=I.a;refine ent func167 ntmps167 ?_;gi_wp2;clear e1;gi_loopw[9] (fun i wr=>∃j:Nat,j<=n1/\i=j/\∃o,Hid (J (xs.drop j) o wr)/\Hid (InC b2 b3 A1 n1 c1 k wr)) (fun i _=>n1-(intOf i).toNat);case atStart=>exact⟨0,cf _,rfl,none,N,I⟩
 case round=>
  obtain⟨j,Z,rfl,o,d,z⟩:=hrel;by_cases ah:j<n1
  ·obtain⟨Q,ae,O,P,ad,S⟩:=s.out (2,(j:Int)) (xs.drop (j+1)) o wr trivial (by have h:=d.out;rwa [drop_at (E.out j ah)]at h);have p:=Hd S;clear S
   gi_wp2_with (first
    |(refine p.out.mono ?_;rintro e B ⟨rfl,o',f,m⟩;have c:=Hd2 f (y.out _ _ _ _ _ d.out z.out m);clear f m)
    |fail)
   exact⟨⟨j+1,pj,by go_num,o',Hd c.a,Hd c.u⟩,by simp[intOf];omega⟩
  ·obtain rfl:j=n1:=pj;obtain⟨Q,ae,O,P,ad,S⟩:=s.out (3,0) (xs.drop (j+1)) o wr trivial (by have h:=d.out;rwa [drop_at F.out]at h);have p:=Hd S;clear S
   gi_wp2_with (first
    |(have g:=G1.out;clear g;refine af.out.mono ?_;rintro e W4 ⟨rfl,o4,T,ab⟩;have A:=Hd2 T (y.out _ _ _ _ _ c.a c.u ab);have e3:=A.v;clear T ab)
    |(refine p.out.mono ?_;rintro e B ⟨rfl,o',f,m⟩;have c:=Hd2 f (y.out _ _ _ _ _ d.out z.out m);clear f m;obtain⟨am,ai,ak,al,aj,Y⟩:=s.out (4,0) (xs.drop (j+1+1)) o' B trivial (by have h:=c.a;rwa [drop_at G.out]at h);have af:=Hd Y;have G1:=Hd trivial;clear Y)
    |fail)
   clear e3;gi_loopw[29] (fun i wr=>∃q:Nat,q<=k/\i=q/\∃o,Hid (J (xs.drop (j+2+q)) o wr)/\Hid (InC b2 b3 A1 j c1 k wr)) (fun i _=>k-(intOf i).toNat);case atStart=>exact⟨0,cf _,rfl,o4,Hd A.a,Hd A.u⟩
   case round=>
    obtain⟨q,hq,rfl,o,d,z⟩:=hrel;by_cases aa:q<k
    ·obtain⟨Q,ae,O,P,ad,S⟩:=s.out (5,(q:Int)) (xs.drop (j+2+q+1)) o wr trivial (by have h:=d.out;rwa [drop_at (H.out q aa)]at h);have p:=Hd S;clear S
     gi_wp2_with (first
      |(refine p.out.mono ?_;rintro e B ⟨rfl,o',f,m⟩;have c:=Hd2 f (y.out _ _ _ _ _ d.out z.out m);clear f m)
      |fail)
     exact⟨⟨q+1,pj,by go_num,o',Hd c.a,Hd c.u⟩,by simp[intOf];omega⟩
    ·obtain rfl:q=k:=pj;have HE:=Hd (show J [] o wr by have h:=d.out;rwa [cB (by rw[HL.out];exact bj _)]at h);clear hq aa d;gi_wp2;go_end0;exact⟨⟨_,rfl⟩,o,HE.out⟩
theorem afq{y:aU}(h:pX y):WOk y:=by
 have a:=DW h;have b:=VU h;unfold mV at a;refine⟨fun e=>?_,fun e=>⟨?_,(b (.inr e)).1⟩,fun e=>?_⟩;·rcases e with e|e|e|e<;>(rw[e]at a;simp at a;omega)
 ·rw[e]at a;simp at a;omega
 rw[e]at a;simp at a;omega
theorem abO(kd n:Int)(x:aU):i64 (a_ kd n x):=by rcases aam kd n x with e|e|e|e<;>(rw[e];unfold i64;omega)
theorem yg.aiL{w u wr:World}{L:List (Nat×List Value)}{v:Value}{xs:List Int}(h:yg (α:=Int) 3 w u L v k xs wr){x y:Int}(hx:i64 x)(hy:i64 y)(hn:k<=10000):
 ∃v' w',(Builtin.append_ #[26,26] 26 #[v,.slice (some ⟨wr,0,none⟩) 2 2]).run prog (wr.alloc (.cells #[.int .i64 x,.int .i64 y] 3))=.ok v' w'/\yg (α:=Int) 3 w u L v' (k+2) (xs++ [x,y]) w'/\Keeps (bP v) (wr.alloc (.cells #[.int .i64 x,.int .i64 y] 3)) w':=by
 have hb:Below wr wr (wr.alloc (.cells #[x,y] 3)):=by exact bel
 have hs:Sl Int (wr.alloc (.cells #[.int .i64 x,.int .i64 y] 3)) (bP v++ []) (some ⟨wr,0,none⟩) 2 2 [x,y]:=(show Row _ _ [x,y]from lz wr _).sl (fun a=>by
    rw[dx]at a;have:=(h.own.lt (bJ.1 a)).2;omega) rfl pj (fun z m=>by
    simp only[cD,eo,iB]at m;rcases m with rfl|rfl;·exact hx
    exact hy)
 obtain⟨v',c,f,b,d⟩:=(h.go hb).ahX (t:=26) underlying26 RY hs pj;exact⟨v',c,f,b,d⟩
theorem yg.mr{α:Type} [kJ α] {e:TypeId}{w u wr:World}{L:List (Nat×List Value)}{v:Value}{xs:List α}(h:yg e w u L v k xs wr):∃Mr,bP v=Mr/\∀b vs,(b,vs)∈L->b∉Mr:=⟨_,rfl,fun b vs hm hq=>by have:=(h.own.lt (bJ.1 hq)).1;have:=h.hL b vs hm;omega⟩
theorem aeI{M:List Nat}{w:World}(hr:dG w M r s1 s2 s3 s4 s5 s6 s7)(hx:r.rounds[k]?=some x)(hw:∀y,y∈iZ (au x)->WOk y)(hc:r.aT.length<=1000)(hk:k<=1000):
 Calls prog 116 #[.agg (aV r s1 s2 s3 s4 s5 s6 s7).toArray,k] w fun e w'=>∃A n c,e=.returned (.slice A n c)/\Sl Int w' [] A n c (aaJ r.aT.length k (au x))/\Below w w w':=by
 refine wid ?_;obtain⟨T,G,c1⟩:=s1;obtain⟨A5,n5,c5⟩:=s5;have aq:r.aT.length=G:=hr.aT.len;have h5:Sl aJ w M A5 n5 c5 r.rounds:=hr.rounds;have aA:=h5.small;have az:k<n5:=by rw[<-h5.len];exact(bu.1 hx).1
 obtain⟨O,am,Y⟩:=dR ((Fr.nil w).a w (aV r ⟨T,G,c1⟩ s2 s3 s4 ⟨A5,n5,c5⟩ s6 s7) 28);obtain⟨b,o,B,m,d,rfl,-,⟨y6,y7,y8,y9,Qu⟩,-,-,-,hs⟩:=(h5.go Y.bl).iw hx;obtain⟨f,ap⟩:∃X:aU,au x=X:=⟨_,rfl⟩;rw[ap]at hw hs y6 y7 y8 y9 |-;rw[aq]at hc |-;obtain⟨W1,an,ab,F1⟩:=fP (w:=O) (Y.a O [f.kind,f.name,f.n,f.d,.slice B m d] 66);have o0:=aW Y;have o1:=aW F1;obtain⟨L,hL⟩:∃L:List (Nat×List Value), [(w.heap.size,aV r ⟨T,G,c1⟩ s2 s3 s4 ⟨some ⟨b,o,none⟩,n5,c5⟩ s6 s7),(O.heap.size, [f.kind,f.name,f.n,f.d,.slice B m d])]=L:=⟨_,rfl⟩;have HL:=Hd (show ∀V,Fr w V L->Fr w V [(w,aV r ⟨T,G,c1⟩ s2 s3 s4 ⟨some ⟨b,o,none⟩,n5,c5⟩ s6 s7),(O, [f.kind,f.name,f.n,f.d,.slice B m d])]from fun V h=>by rw[hL];exact h);have FL:Fr w W1 L:=by rw[<-hL];exact F1
 have ak:=Hd (show L= [(w.heap.size,aV r ⟨T,G,c1⟩ s2 s3 s4 ⟨some ⟨b,o,none⟩,n5,c5⟩ s6 s7),(O.heap.size, [.int .i64 f.kind,.string f.name,.int .i64 f.n,.int .i64 f.d,.slice B m d])]from hL.symm);obtain⟨W2,ao⟩:=aC (W1.alloc (.cells #[] 3));have RB:=Hd (show yg (α:=Int) 3 w W1 L (.slice (some ⟨W1,0,none⟩) 0 0) 0 ((List.range 0).map fun i=>a_ 2 (i:Nat) f) W2 by rw[<-ao];exact yg.lit FL _);have H:=Hd2 (hs.go ab) hw;have aw:=Hd (FL.bl);have ax:=Hd ab;have o2:=aW (HL.out _ RB.out.fr);clear Y F1 hr h5 hs hw hL FL ab;refine ent func116 ntmps116 ?_;gi_wp2;clear o0 o1 o2 y6 y7 y8 y9 Qu am an;gi_loopw[6,7] (fun v i wr=>RZ (α:=Int) 3 w W1 L (fun k=>(List.range k).map fun i=>a_ 2 (i:Nat) f) G v i wr) (fun _ i _=>G-(intOf i).toNat);case atStart=>unfold RZ;exact⟨0,cf _,rfl,RB⟩
 case round=>
  unfold RZ at hrel;obtain⟨j,hj,rfl,l⟩:=hrel;have o3:=aW (HL.out _ l.out.fr);by_cases ar:j<G
  ·have s:=Hd (abN (what:=0) (kd:=2) (n:=(j:Nat)) (.inl ⟨rfl,rfl⟩) f H.u ((H.a.go ((l.out.bb)))));obtain⟨z,F⟩:=aC (a_ 2 (j:Nat) f);rw[F]at s;have S:i64 z:=by rw[<-F];exact abO _ _ _
   have HZ:=Hd2 F S;clear F S
   gi_wp2_with (first
    |(have g:=J;clear g;gi_at_builtin;refine c_ rfl fun K Q=>?_;have X:=J.a;refine aI _ _ _ rfl rfl rfl X (Q _ _ ?_);clear Q K X)
    |(refine Cl 160 s.out ?_;rintro e w3 ⟨rfl,E⟩;obtain⟨v',wA,I,N⟩:=(l.out.go E).app (x:=z) (cs:= [z]) underlying26 RY ⟨rfl,HZ.u⟩ pj;have J:=Hd2 I N;have o4:=aW (HL.out _ N.fr);clear I N E)
    |fail)
   exact⟨by unfold RZ;exact⟨j+1,pj,by go_num,Hd (by have h:yg _ _ _ _ _ _ ((List.range j).map (fun i=>a_ 2 (i:Nat) f)++ [z]) _:=J.u;rw[<-HZ.a,<-ou (fun i=>a_ 2 (i:Nat) f)]at h;exact h)⟩,by simp[intOf];omega⟩
  ·obtain rfl:j=G:=pj;have D:=Hd l.out;clear hj ar l;obtain⟨Mr,af,ah⟩:=D.out.mr;have ag:(O.heap.size, [.int .i64 f.kind,.string f.name,.int .i64 f.n,.int .i64 f.d,.slice B m d])∈L:=by rw[ak.out];simp
   have R:=ah _ _ ag;have u0:=aF R ((HL.out _ D.out.fr).aQ 1 0);have u1:=aF R ((HL.out _ D.out.fr).aQ 1 1);have u2:=aF R ((HL.out _ D.out.fr).aQ 1 2);have u3:=aF R ((HL.out _ D.out.fr).aQ 1 3);have u4:=aF R ((HL.out _ D.out.fr).aQ 1 4);have al:=Hd af;clear ag R ah af;have HB:=Hd (show Below wr wr wr.drew from pE.drew);have s:=Hd (fun(V:World) (hb:Below wr wr V)=>abN (what:=1) (kd:=3) (n:=0) (.inr (.inl ⟨rfl,rfl⟩)) f H.u ((H.a.go (D.out.bb)).go hb));have HD:=Hd (fun(V:World) (hb:Below wr wr V)=>abN (what:=2) (kd:=4) (n:=0) (.inr (.inr (.inl ⟨rfl,rfl⟩))) f H.u ((H.a.go (D.out.bb)).go hb));obtain⟨z,F⟩:=aC (a_ 3 0 f);obtain⟨z',aa⟩:=aC (a_ 4 0 f);rw[F]at s;rw[aa]at HD;have S:i64 z:=by rw[<-F];exact abO _ _ _
   have ae:i64 z':=by rw[<-aa];exact abO _ _ _
   have HZ:=h_ F aa S ae;clear F aa S ae;gi_wp2;clear o3;refine aP Mr 7 pk pk ?_;refine ay 0 ?_;refine ay 1 ?_;refine ay 3 ?_;refine eU 2 fun K p=>?_;gi_wp2;refine Cl 160 (s.out _ HB.out) ?_;rintro e w3 ⟨rfl,E⟩;refine p _ _ ⟨?_,?_⟩;clear p K;·exact bq E _
   refine lit ?_;have Z:=Hd (HB.out.trans (E.mono HB.out.size));clear E;refine eU 4 fun K p=>?_;gi_wp2;refine Cl 160 (HD.out _ Z.out) ?_;rintro e w4 ⟨rfl,hb4⟩;refine p _ _ ⟨?_,?_⟩;clear p K;·exact bq hb4 _
   refine lit ?_;have ac:=Z.out.trans (hb4.mono Z.out.size);obtain⟨v',W6,I,R6,kp⟩:=(D.out.go ac).aiL HZ.c HZ.w pj;rw[al.out]at kp;have HR:=Hd I;have ad:=Hd R6;have HK:=Hd kp;clear hb4 ac I R6 kp;refine eU 5 fun K p=>?_;gi_wp2;refine⟨bq (show Below w4 w4 _ from pE.alloc pD _) _,?_⟩;refine lit ?_;refine oQ 6 [] pk (dN pt rfl ?_ (fun K p=>?_) gU);·exact wy
   refine aI _ _ _ rfl rfl rfl HR.out (p _ _ ⟨HK.out,?_⟩);clear p K;refine lit ?_;refine iq 1 ?_;refine jW fun K p K' Q=>?_;gi_wp2;refine et _ ?_;simp only[cu];gi_wp2;clear HR HK s HD HB Z u0 u1 u2 u3 u4;obtain⟨P,hP⟩:=aC ((List.range j).map (fun i=>a_ 2 (i:Nat) f)++ [z,z']);rw[hP]at ad;have HP:=Hd (show P=(List.range j).map (fun i=>a_ 2 (i:Nat) f)++ [a_ 3 0 f,a_ 4 0 f] by rw[<-hP,HZ.a,HZ.b]);clear hP;gi_loopw[6,8] (fun v i wr=>∃q:Nat,q<=k/\i=.int .i64 q/\Hid (yg (α:=Int) 3 w W1 L v (j+2+q) (P++(List.range q).map fun i=>a_ 5 (i:Nat) f) wr)) (fun _ i _=>k-(intOf i).toNat);case atStart=>exact⟨0,cf _,rfl,Hd (by rw[List.range_zero,ia,dx];exact ad.out)⟩
   case round=>
    obtain⟨q,hq,rfl,l⟩:=hrel;have o3:=aW (HL.out _ l.out.fr);by_cases av:q<k
    ·have s:=Hd (abN (what:=3) (kd:=5) (n:=(q:Nat)) (.inr (.inr (.inr ⟨rfl,rfl⟩))) f H.u ((H.a.go ((l.out.bb)))));obtain⟨y,hy⟩:=aC (a_ 5 (q:Nat) f);rw[hy]at s;have aj:i64 y:=by rw[<-hy];exact abO _ _ _
     have HY:=Hd2 hy aj;clear hy aj
     gi_wp2_with (first
      |(have g:=J;clear g;gi_at_builtin;refine c_ rfl fun K Q=>?_;have X:=J.a;refine aI _ _ _ rfl rfl rfl X (Q _ _ ?_);clear Q K X)
      |(refine Cl 160 s.out ?_;rintro e w3 ⟨rfl,E⟩;obtain⟨v',wA,I,N⟩:=(l.out.go E).app (x:=y) (cs:= [y]) underlying26 RY ⟨rfl,HY.u⟩ pj;have J:=Hd2 I N;have o4:=aW (HL.out _ N.fr);clear I N E)
      |fail)
     exact⟨⟨q+1,pj,by go_num,Hd (by have h:yg _ _ _ _ _ (j+2+q+1) (P++(List.range q).map (fun i=>a_ 5 (i:Nat) f)++ [y]) _:=J.u;rw[<-HY.a,dz,<-ou (fun i=>a_ 5 (i:Nat) f)]at h;exact h)⟩,by simp[intOf];omega⟩
    ·obtain rfl:q=k:=pj;obtain⟨A',c',rfl,ai⟩:=l.out.sl pj;have HE:=Hd2 ai l.out.fr.bl;clear hq av l ai;gi_wp2;go_ret;exact⟨A',_,c',rfl,by have h:=HE.a;rw[HP.out]at h;exact h,HE.u⟩
def wyF(X:aU)(x:Int×Int):Int:=a_ x.1 x.2 X
theorem adF(nc k:Nat)(X:aU):(aa9 nc k).map (wyF X)=aaJ nc k X:=by unfold aa9 aaJ wyF;simp only[ed,nF,eV,ia];rfl
theorem af0{nc:Nat}{x:Int×Int}(h:x∈aa9 nc k):x.1=2\/x.1=3\/x.1=4\/x.1=5:=by unfold aa9 at h;simp only[cK,eE,cD,eo,iB]at h;rcases h with(⟨i,-,rfl⟩|rfl|rfl)|⟨i,-,rfl⟩<;>simp
def WyI(w u:World)(L:List (Nat×List Value))(bl:Nat)(xs:List (Int×Int))(X:aU)(rest:List (Int×Int))(o:Option Nat)(W:World):Prop:=∃v pre,xs=pre++rest/\o=v.ownBlock/\VbR Int 3 [] w u L bl 0 (fun v=> [v]) v (pre.map (wyF X)) W
theorem aeJ{M:List Nat}{w:World}(hr:dG w M r s1 s2 s3 s4 s5 s6 s7)(hs:Sound r)(hx:r.rounds[k]?=some x)(hp:x.2.2.2.2.1=false)(ht:Tab w)(hM:b_ M w)(hc:r.aT.length<=1000)(hk:k<=1000):
 Calls prog 67 #[.agg (aV r s1 s2 s3 s4 s5 s6 s7).toArray,k] w fun e w'=>∃A n c,e=.returned (.tuple #[.slice A n c,.int .i64 0])/\Sl Int w' [] A n c (aaJ r.aT.length k (au x))/\Below w w w':=by
 refine wid ?_;have ao:∀y,y∈iZ (au x)->WOk y:=fun y hy=>afq ((hs.2.1.rounds x (bh hx)).2.2.2.2.2 hp y hy);obtain⟨I,l,N⟩:=s1;obtain⟨A5,n5,c5⟩:=s5;have aD:r.aT.length=l:=hr.aT.len;have Y:Sl aJ w M A5 n5 c5 r.rounds:=hr.rounds;have aY:=Y.small;have aU:k<n5:=by rw[<-Y.len];exact(bu.1 hx).1
 have aX:¬((k:Nat):Int)>=((n5:Nat):Int):=pj;have aR:¬((k:Nat):Int)<0:=pj;obtain⟨E,o5,-,-,-,Zm,⟨-,-,-,-,ap,-⟩,-⟩:=Y.iw hx;subst Zm;have aL:E<w.heap.size:=bw w _ ap;clear ap;rw[aD]at hc |-;obtain⟨W1,aK,F1⟩:=dR ((((Fr.nil w).a w (aV r ⟨I,l,N⟩ s2 s3 s4 ⟨some ⟨E,o5,none⟩,n5,c5⟩ s6 s7) 28).a (w+1) [k] 3).a (w+2) [.slice none 0 0] 26);have o1:=aW F1;have F:=Hd F1;obtain⟨rk,T⟩:=hs.2.2.1;have HC:=Hd (Pq (hr.go F1.bl) hs.1 hs.2.1 T hs.2.2.2 (tab_below ht F1.bl) (hM.le F1.bl.size));have H:=fB Y hx ao;have HP:=Hd hp;clear F1 hr hs ht hM T Y hx ao hp;refine sH func67 rfl ntmps67 ?_
 gi_wp2_with (first
  |(have g:=S.out;clear g;refine Cl 118 (adE (r:=r) (s1:=⟨I,l,N⟩) (s2:=s2) (s3:=s3) (s4:=s4) (s5:=⟨some ⟨E,o5,none⟩,n5,c5⟩) (s6:=s6) (s7:=s7) (k:=(k:Nat))) ?_;rintro e J ⟨rfl,an⟩;have ab:=Hd an;clear an)
  |(refine Cl 66 HC.out ?_;rintro e m ⟨rfl,ai⟩;have FO:=F.out.go ai;replace F:=Hd FO;have o1:=aW FO;have S:=Hd trivial;obtain⟨b3,ZU,D,m3,e3,eA,⟨-,-,-,-,y4,-⟩,-,-,-,-,-⟩:=(H.a.go FO.bl).iw H.b;cases eA;rw[HP.out]at y4;clear FO ai)
  |fail)
 have ac:Below m m J:=by rw[<-ab.out];exact bel
 have FI:Fr m J [(m,aV r ⟨I,l,N⟩ s2 s3 s4 ⟨some ⟨E,o5,none⟩,n5,c5⟩ s6 s7),(m+1, [k])]:=by rw[<-ab.out];exact((Fr.nil m).a m.heap.size _ _).a (m+1) _ _
 have F3:=F.out.go ac;have aM:w.heap.size+2<m.heap.size:=F.out.mJ 2;have aZ:m.heap.size+2=J.heap.size:=by rw[<-ab.out];simp
 have hY:=acK (M:= [w.heap.size+2]) (show InC m.heap.size (m.heap.size+1) I l N k J from⟨FI.aQ 0 1,FI.aQ 1 0⟩) px px hc hk;have V0:VbR Int 3 [] w J [(w,aV r ⟨I,l,N⟩ s2 s3 s4 ⟨some ⟨E,o5,none⟩,n5,c5⟩ s6 s7),(w+1, [k])] (w.heap.size+2) 0 (fun v=> [v]) (.slice none 0 0) [] J:=VbR.nil F3 (fun b vs Z=>by simp at Z;omega) (b_.nil _) (fun _=>rfl) (fun _ _=>rfl);refine acS rfl (eR func167 pk rfl) hY (cG _ _) (fun q d=>by simp at d;omega) pH (fun _=>rfl) (WyI w J [(w,aV r ⟨I,l,N⟩ s2 s3 s4 ⟨some ⟨E,o5,none⟩,n5,c5⟩ s6 s7),(w+1, [k])] (w.heap.size+2) (aa9 l k) (au x)) ?hI ?hIo ?hIn ⟨_, [],rfl,rfl,V0⟩ ?round ?done;case hI=>rintro ag o W W' ⟨c,O⟩ ⟨v,p,i,rfl,f⟩ hk;refine⟨v,p,i,rfl,f.kpI hk (fun q d=>by simp at d;omega) fun g P d=>?_⟩;simp only[cD,eo,iB]at d;subst d;obtain⟨ob,B,X⟩:=aaD f.own P;rw[O]at B;cases B;cases X
 case hIo=>rintro ag q W ⟨v,p,i,e2,f⟩;exact⟨(f.own.lt e2.symm).1,aaD f.own e2.symm⟩
 case hIn=>rintro ag o W W' ⟨v,p,i,rfl,f⟩ hk;exact⟨v,p,i,rfl,f.kpI hk pH fun g P d=>by cases d⟩
 case round=>
  rintro⟨kd,n⟩ ag o W ⟨lc,O⟩-⟨v,p,i,rfl,f⟩;have ak:=af0 (show(kd,n)∈aa9 l k by rw[i];simp);have am:p.length<=3000:=by have:=gT List.length i;rw[acA,cJ]at this;omega
  obtain⟨V1,ax,V,S⟩:=fP (w:=W) ((Fr.nil W).a W [kd,n] 168);gi_wp2;refine⟨bq V _,?_⟩;rintro U lr aE aa;have ae:W.heap.size≠J.heap.size+1:=by have:=(cR.1 O).1;omega
  have s:VbR Int 3 [] w J _ (w.heap.size+2) 0 (fun v=> [v]) v (p.map (wyF (au x))) U:=(f.go V).kpI aa (fun q d=>by simp at d;omega) fun g P d=>by simp only[cD,eo,iB]at d;subst d;obtain⟨ob,B,X⟩:=aaD (f.go V).own P;have h3:=(V.block (J.heap.size+1) (cR.1 O).1).trans O;rw[h3]at B;cases B;cases X
  have ah:w.heap.size+2∉bP v:=s.no _ pj;have nW:W.heap.size∉bP v:=fun Z=>by have:=(f.own.lt (bJ.1 Z)).2;omega
  have i0:=aF nW (aa.k.cell (by simp;exact ae) (S.aQ 0 0));have i1:=aF nW (aa.k.cell (by simp;exact ae) (S.aQ 0 1));have n0:w.heap.size∉bP v:=s.no _ pj;have av:w.heap.size+1∉bP v:=s.no _ pj;have l0:=aF ah (s.fr.aQ 2 0);have r5:=aF n0 (s.fr.aQ 0 5);have r1:=aF av (s.fr.aQ 1 0);obtain⟨b3,ZU,D,m3,e3,eA,-,⟨y6,y7,y8,y9,Qu⟩,-,-,-,hys⟩:=(H.a.go s.fr.bl).iw H.b;cases eA;have R:E∉bP v:=s.no _ pj;have v6:=aF R y6;have v7:=aF R y7;have v8:=aF R y8;have v9:=aF R y9;have aG:=aF R Qu;have HW:=Hd (afp (n:=n) ak H.v (hys.go (bL U U).drew));obtain⟨z,hz⟩:=aC (a_ kd n (au x));rw[hz]at HW;have aq:i64 z:=by rw[<-hz];exact abO _ _ _
  have HV:=fB s aq hz;have HE:=Hd2 i am;clear O i f ak am ax V S aE aa ae s ah nW n0 av hys y6 y7 y8 y9 Qu R aq hz hY V0 FI F3 ac o1;gi_wp2;refine aP (bP v) 11 pk pk ?_;refine ay 0 ?_;refine ay 1 ?_;refine ay 2 ?_;refine ay 3 ?_;refine ay 4 ?_;refine ay 5 ?_;refine ay 6 ?_;refine ay 7 ?_;refine eU 8 fun K G=>?_;gi_wp2;refine Cr 119 HW.out ?_;rintro e w4 ⟨rfl,hb4⟩;refine G _ _ ⟨?_,?_⟩;clear G K;·exact bq hb4 _
  refine lit ?_;have ad:=(bL U U).drew.trans hb4;obtain⟨v',w5,aw,q1,q2,R5,T5,ar⟩:=(HV.a.go ad).ajK (x:=z) (cs:= [.int .i64 z]) underlying26 RY ⟨rfl,HV.b⟩ (by rw[ck];have:=HE.u;omega);obtain⟨A6,c6,e6,-⟩:=R5.own.sl (by rw[cJ,ck];have:=HE.u;simp;omega) (fun q d=>by simp at d;subst d;exact R5.hb);rw[show(p.map (wyF (au x))++ [z]).length=p.length+1 by simp]at e6;subst e6;have HR:=h_ aw ar R5 ((az.of_below ad _ _).trans T5);clear hb4 ad aw R5 T5 ar i0 i1 l0 r5 r1 v6 v7 v8 v9 aG;refine eU 9 fun K G=>?_;gi_wp2;refine⟨bq (show Below w4 w4 _ from pE.alloc pD _) _,?_⟩;refine lit ?_;refine oQ 10 [] pk (dN pt rfl ?_ (fun K G=>?_) gU);·exact wy
  refine aI _ _ _ rfl rfl rfl HR.out.1 (G _ _ ⟨HR.b,?_⟩);clear G K;refine lit ?_;refine iq 1 ?_;refine jW fun K G K' aH=>?_;gi_wp2;refine et _ ?_;simp only[cu];gi_wp2;exact⟨_,⟨_,p++ [(kd,n)],po,rfl,by rw[ed,nt,show wyF (au x) (kd,n)=z from HV.v];exact HR.c⟩,HR.w⟩
 case done=>
  rintro o W ⟨v,p,i,rfl,f⟩ aj;rw[dx]at i;subst i;rw[adF]at f;have kD:KpO [J] W (W.putObj J.heap.size (.deferred none)):=⟨⟨by rw[kh];exact bj _,fun q _ Z=>fz (fun e=>Z (by simp[e]))⟩,rfl,rfl,rfl⟩;have Q:=f.kpI kD (fun q d=>by simp at d;omega) fun g P d=>by simp only[cD,eo,iB]at d;subst d;obtain⟨ob,B,X⟩:=aaD f.own P;rw[aj]at B;cases B;cases X
  have al:(aaJ l k (au x)).length=l+2+k:=by rw[<-adF,ck,acA]
  obtain⟨A6,c6,rfl,af⟩:=Q.own.sl (by rw[al];omega) (fun q d=>by simp at d;subst d;exact Q.hb);rw[al]at af f Q;have aA:=f.fr.aQ 2 0;have aO:=f.fr.zN 2 0;have aB:=Q.fr.aQ 2 0;have q0:=aN aA;have HB:=Hd2 Q.fr.bl (af.less (M':= []) pH);clear hY V0 FI F3 ac o1 f Q af kD;gi_wp2;refine⟨po,.inl ⟨_,_,rfl,jt aj,?_⟩⟩;exact⟨.tuple #[.slice A6 (l+2+k) c6,.int .i64 0],by simp[results,results67,go_sem,aB],_,_,_,rfl,HB.u,HB.a⟩
end
