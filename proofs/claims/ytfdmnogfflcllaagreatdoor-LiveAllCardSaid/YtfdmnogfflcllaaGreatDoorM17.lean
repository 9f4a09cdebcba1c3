/- Lemmas -/
import Derived.Laws.EntriesVeiled
import Derived.Test.YtfdmnogfflcllaaGreatDoorM16
set_option linter.all false
set_option maxRecDepth 100000
set_option maxHeartbeats 0
namespace Go.Proofs.YtfdmnogfflcllaaGreatDoor
open Go.Proofs.Tryz Go.RowKit Go.Shelf
variable {r:aS}{s1 s2 s3 s4 s5 s6 s7:dK}{h g cap k m d:Nat}{y:aJ}
theorem RB.ai3{w W:World}{M:List Nat}{L:List (Nat×List Value)}(H:RB w W h L M r s1 s2 s3 s4 s5 s6 s7)(hM:∀q,q∈M->q<W.heap.size):∀q,q∈(h::(h+1)::(h+1+1)::(h+1+1+1)::M)->q<W.heap.size:=by
 intro q a;have b:=H.vr.lt;simp only[cD]at a;rcases a with rfl|rfl|rfl|rfl|a;·omega
 ·omega
 ·omega
 ·omega
 exact hM q a
structure PB(w V:World)(lb fb cb rb eb bc br bt xb:Nat)(cn rn tn:List ByteArray)(M:List Nat)(r:aS)(s1 s2 s3 s4 s5 s6 s7:dK):Prop where
 bl:Below w w V
 vf:aZ V fb (.func (.func 244) #[] #[.pointer (some ⟨lb,0,none⟩)])
 vc:aZ V cb (.map (some bc))
 vr:aZ V rb (.map (some br))
 ve:aZ V eb (.func (.func 245) #[] #[.pointer (some ⟨fb,0,none⟩),.pointer (some ⟨cb,0,none⟩),.pointer (some ⟨rb,0,none⟩),.pointer (some ⟨eb,0,none⟩)])
 vl:aZ V lb false
 ic:dB V bc cn cn.length
 ir:dB V br rn rn.length
 it:dB V bt tn tn.length
 fr:Fr w V [(w,aV r s1 s2 s3 s4 s5 s6 s7)]
 rs:dG V M r s1 s2 s3 s4 s5 s6 s7
 s:Ku V V xb M r.ties s4.n r.rounds s5.n (aV r s1 s2 s3 s4 s5 s6 s7) none none
 bm:∀q,q∈M->q<V.heap.size
theorem UK{w w10 XF XW:World}{M:List Nat}(H:RB w w10 h [(w,aV r s1 s2 s3 s4 s5 s6 s7),(w.heap.size+1,nR)] ((w.heap.size+1)::M) r s1 s2 s3 s4 s5 s6 s7)
 (J:dB w10 h (dP r) s1.n/\dB w10 (h+1) (UG r) (s2.n+s3.n)/\dB w10 (h+1+1) (jF r) s4.n/\dB w10 (h+1+1+1) (dQ r) s5.n) (hb:Below w10 w10 XF)
 (v0:aZ XF w10.heap.size false) (v1:aZ XF (w10.heap.size+1) (.func (.func 244) #[] #[.pointer (some ⟨w10,0,none⟩)]))
 (v2:aZ XF (w10.heap.size+1+1) (.func (.func 245) #[] #[.pointer (some ⟨w10+1,0,none⟩),.pointer (some ⟨h+1+1+1+1,0,none⟩),.pointer (some ⟨h+1+1+1+1+1,0,none⟩),.pointer (some ⟨w10+1+1,0,none⟩)]))
 {p0:Prop}(_:p0) (hl:r.aT.length=s1.n/\r.bonus.length=s2.n/\r.malus.length=s3.n/\r.ties.length=s4.n/\r.rounds.length=s5.n) (hM:∀q,q∈(w.heap.size+1)::M->q<w10.heap.size)
 (hU:fM XF (w.heap.size+1) 0 (aV r s1 s2 s3 s4 s5 s6 s7)=XW):
 PB w XW w10.heap.size (w10.heap.size+1) (h+1+1+1+1) (h+1+1+1+1+1) (w10.heap.size+1+1) h (h+1+1+1) (h+1+1) (w.heap.size+1) (dP r) (dQ r) (jF r) (w10.heap.size::h::(h+1)::(h+1+1)::(h+1+1+1)::(w.heap.size+1)::M) r s1 s2 s3 s4 s5 s6 s7:=by
 have j:=H.go hb;have R:=H.lt (w.heap.size+1) nR (bE _ cw);have Q:=H.vr.lt;have hs:=hb.size;obtain⟨N,kb⟩:=iO (w:=XF) (b:=w+1) (us:=aV r s1 s2 s3 s4 s5 s6 s7) (vs:=nR) (fun i u I=>j.f.at_ (w.heap.size+1) nR (bE _ cw) i u I) rfl hU;have o:=(H.rs.more (b:=w10) pD).go hb;have P:=kb.k.size;have l:∀{b v},aZ XF b v->b≠w.heap.size+1->aZ XW b v:=fun h e=>h.kb kb.k e;have D:=l v1 pj;have O:=l j.vc pj;have E:=l j.vr pj;have F:=l v2 pj;have G:=l v0 pj;have p:=o.keep (W':=XW) (kb.k.mono (fun q a=>by rw[bz]at a;subst a;simp));have L:Ku XW XW (w.heap.size+1) (w10.heap.size::h::(h+1)::(h+1+1)::(h+1+1+1)::(w.heap.size+1)::M) r.ties s4.n r.rounds s5.n (aV r s1 s2 s3 s4 s5 s6 s7) none none:={ kb:=⟨cG _ _,bL _ _⟩,xV:=by omega,xM:=by simp,x:=N,o4:=fun v e=>(by cases e),o5:=fun v e=>(by cases e),dj:=fun k e=>(by cases e) };have t:Below w w XW:=j.f.bl.trans (kb.bl.mono pj);have z:Fr w XF [(w,aV r s1 s2 s3 s4 s5 s6 s7)]:=j.f.hd;have A:=z.kb kb (ja _) (fun c vs K=>by rw[bz]at K;injection K with e _;omega);refine{ bl:=t,fr:=A,vf:=D,vc:=O,vr:=E,ve:=F,vl:=G,ic:=?_,ir:=?_,it:=?_,rs:=p,s:=L,bm:=?_ };·rw[show(dP r).length=s1.n by rw[<-hl.1];simp];exact(J.1.go hb).kb kb pj
 ·rw[show(dQ r).length=s5.n by rw[<-hl.2.2.2.2];simp];exact(J.2.2.2.go hb).kb kb pj
 ·rw[show(jF r).length=s4.n by rw[<-hl.2.2.2.1];simp];exact(J.2.2.1.go hb).kb kb pj
 ·intro q a;simp only[cD]at a;have S:=v0.lt;rcases a with rfl|rfl|rfl|rfl|rfl|a;·omega
  ·omega
  ·omega
  ·omega
  ·omega
  have:=hM q (cD.2 a);omega
theorem UL{w V W:World}{lb fb cb rb eb bc br bt xb:Nat}{cn rn tn:List ByteArray}{M:List Nat}{C:List Value}{v4 v5:Value}(H:PB w V lb fb cb rb eb bc br bt xb cn rn tn M r s1 s2 s3 s4 s5 s6 s7)
 (S:Ku V W xb M r.ties s4.n r.rounds s5.n C (some v4) (some v5)) (hx:w.heap.size<=xb/\w.heap.size<=lb) (h1:fb≠xb/\cb≠xb/\rb≠xb/\eb≠xb/\lb≠xb/\bc≠xb/\br≠xb/\bt≠xb) (h2:fb≠lb/\cb≠lb/\rb≠lb/\eb≠lb/\bc≠lb/\br≠lb/\bt≠lb)
 (hl:cn.length<=100000/\rn.length<=100000) (PZ:lb∈M):XS w W lb fb cb rb eb bc br bt xb V.heap.size cn rn tn M C v4 s4.n r.ties v5 s5.n r.rounds where
 bl:=H.bl.trans (S.kb.bl.mono hx.1)
 ll:=hx.2
 re:=⟨H.vf.kb S.kb.k h1.1,H.vc.kb S.kb.k h1.2.1,H.vr.kb S.kb.k h1.2.2.1,H.ve.kb S.kb.k h1.2.2.2.1,H.ic.kb S.kb h1.2.2.2.2.2.1,H.ir.kb S.kb h1.2.2.2.2.2.2.1,h2.1,h2.2.1,h2.2.2.1,h2.2.2.2.1,h2.2.2.2.2.1,h2.2.2.2.2.2.1,hl.1,hl.2⟩
 it:=H.it.kb S.kb h1.2.2.2.2.2.2.2
 lo:=H.vl.kb S.kb.k h1.2.2.2.2.1
 x:=S.x
 UF:=⟨H.vf.lt,H.vc.lt,H.vr.lt,H.ve.lt,H.ic.lt,H.ir.lt⟩
 lt2:=⟨H.it.lt,H.vl.lt,S.xV⟩
 ne:=⟨h2.2.2.2.2.2.2,fun e=>h1.2.2.2.2.1 e.symm⟩
 BW:=S.kb.k.size
 o4:=S.o4 v4 rfl
 o5:=S.o5 v5 rfl
 dj q h h':=S.dj q (bJ.2 h) (bJ.2 h')
 bm:=H.bm
 lM:=PZ
theorem BF{w:World}{b o:Nat}{u:Value}(h:w.cell? ⟨b,o,none⟩=some u):∀w',Keeps [w] w.drew w'->w'.cell? ⟨b,o,none⟩=some u:=aF (by have:=bw w _ h;simp at this |-;omega) h
section
variable {w W W' V:World}{lb fb cb rb eb bc br bt xb B:Nat}{cn rn tn:List ByteArray}{M:List Nat}{C:List Value}{n4:Nat}{lt:List dA}{v5:Value}{n5:Nat}{lr:List aJ}
theorem UM{c2:Nat}{t:dA}{A2:Option Addr}(h:XS w W lb fb cb rb eb bc br bt xb B cn rn tn M C (.slice (some ⟨g,0,none⟩) n4 cap) n4 lt v5 n5 lr)(hk:lt[k]?=some t)(hm:m<=100000)
 (ok:bD bK 113 W' (g::(bP v5++M)) W.heap.size (.slice A2 m c2) m t.2) (hb:Below W W W') (hV:W'.setCell ⟨g,k*2+1,none⟩ (.slice A2 m c2)=V):
 XS w V lb fb cb rb eb bc br bt xb B cn rn tn M C (.slice (some ⟨g,0,none⟩) n4 cap) n4 lt v5 n5 lr/\bD bK 113 V (g::(bP v5++M)) B (.slice A2 m c2) m t.2/\V.cell? ⟨g,k*2+1,none⟩=some (.slice A2 m c2):=by
 have i:=(h.o4.lt (k:=g) rfl).2;obtain⟨A,c,e,hs⟩:=ok.sl pj (fun q a=>by
  rcases cD.1 a with rfl|a;·exact i
  rcases cK.1 a with a|a;·exact(h.o5.lt (bJ.1 a)).2
  exact bX (h.bm q a) h.BW)
 cases e;obtain⟨l,f,b⟩:=(h.go hb).o4.get hk;obtain⟨D,n,d,rfl,-⟩:=vJ f;obtain⟨x,j⟩:=(h.go hb).ai0 hk hs hV;refine⟨x,(ok.apart j (fun q a=>by rw[bz]at a;subst a;exact cw) (fun q a e=>by rw[bz]at a;subst a;have:=(ok.lt e).1;omega)).low h.BW,?_⟩;rw[<-hV];exact cZ (b 1 _ rfl).1
end
theorem Gy{cn rn:List ByteArray}{x:aU}(h:lC cn rn x=x):qW cn rn x.kind x.name x.n=x.n/\E5 cn rn x.l=x.l:=by rw[BD]at h;cases x;injection h with _ _ h3 _ h5;exact⟨h3,h5⟩
theorem sS{w:World}{M:List Nat}{x:aJ}{B:Option Addr}(hi:i64 x.2.1/\i64 x.2.2.1/\i64 x.2.2.2.1/\i64 x.2.2.2.2.2.2.2.2)(he:i64 (au x).kind/\i64 (au x).n/\i64 (au x).d)(hs:Sl aU w M B m d (au x).l):
 Rep.rd w M x [x.1,x.2.1,x.2.2.1,x.2.2.2.1,x.2.2.2.2.1,x.2.2.2.2.2.1,(au x).kind,(au x).name,(au x).n,(au x).d,.slice B m d,x.2.2.2.2.2.2.2.1,x.2.2.2.2.2.2.2.2]:=by
 have hx:kH w M (au x) [(au x).kind,(au x).name,(au x).n,(au x).d,.slice B m d]:=by generalize au x=e at he hs |-;cases e;exact kH.of he hs
 exact⟨[_],_,rfl,rfl, [_],_,rfl,⟨rfl,hi.1⟩, [_],_,rfl,⟨rfl,hi.2.1⟩, [_],_,rfl,⟨rfl,hi.2.2.1⟩, [_],_,rfl,rfl, [_],_,rfl,rfl, [_,_,_,_,_],_,rfl,hx, [_],_,rfl,rfl,⟨rfl,hi.2.2.2⟩⟩
section
variable {w W W2 W3:World}{lb fb cb rb eb bc br bt xb B:Nat}{cn rn tn:List ByteArray}{M:List Nat}{C:List Value}{v4:Value}{n4:Nat}{lt:List dA}{n5:Nat}{lr:List aJ}
theorem UN{D:Option Addr}(h:XS w W lb fb cb rb eb bc br bt xb B cn rn tn M C v4 n4 lt (.slice (some ⟨g,0,none⟩) n5 cap) n5 lr)(hk:lr[k]?=some y)(kb:KB lb W W2)(v2:aZ W2 lb false)
 (hs:Sl aU W2 (g::(bP v4++M)) D m d (au y).l) (hw:fM W2 g (k*13+6) [.int .i64 (au y).kind,.string (au y).name,.int .i64 (au y).n,.int .i64 (au y).d,.slice D m d]=W3):
 XS w W3 lb fb cb rb eb bc br bt xb B cn rn tn M C v4 n4 lt (.slice (some ⟨g,0,none⟩) n5 cap) n5 lr:=by
 have:=((h.kb kb v2).ahN (x:=y) hk (show 6+5<=13 by omega) (fun i a=>by obtain⟨e,j,f,rfl,b,c,-⟩:=jg a;exact sS b c hs) hw).1
 rwa [set_self hk]at this
theorem XY(h:XS w W lb fb cb rb eb bc br bt xb B cn rn tn M C v4 n4 lt (.slice (some ⟨g,0,none⟩) n5 cap) n5 lr):b_ (g::(bP v4++M)) W.drew:=fun q hq=>by
 rcases cD.1 hq with rfl|hq;·exact(h.o5.lt (k:=q) rfl).2
 rcases cK.1 hq with hq|hq;·exact(h.o4.lt (bJ.1 hq)).2
 exact bX (h.bm q hq) h.BW
theorem UO{n:Int}(h:XS w W lb fb cb rb eb bc br bt xb B cn rn tn M C v4 n4 lt (.slice (some ⟨g,0,none⟩) n5 cap) n5 lr)(hk:lr[k]?=some y)(hn:i64 n)(hw:W.setCell ⟨g,k*13+12,none⟩ n=W3):
 XS w W3 lb fb cb rb eb bc br bt xb B cn rn tn M C v4 n4 lt (.slice (some ⟨g,0,none⟩) n5 cap) n5 (lr.set k (y.1,y.2.1,y.2.2.1,y.2.2.2.1,y.2.2.2.2.1,y.2.2.2.2.2.1,au y,qX y,n)):=
 (h.ahN (x:=(y.1,y.2.1,y.2.2.1,y.2.2.2.1,y.2.2.2.2.1,y.2.2.2.2.2.1,au y,qX y,n)) (j:=12) (us:= [n]) hk (show 12+1<=13 by omega) (fun es hes=>by obtain⟨D',m',d',rfl,i1,i2,hs⟩:=jg hes;exact sS (x:=(y.1,y.2.1,y.2.2.1,y.2.2.2.1,y.2.2.2.2.1,y.2.2.2.2.2.1,au y,qX y,n)) ⟨i1.1,i1.2.1,i1.2.2.1,hn⟩ i2 hs) hw).1
end
abbrev ZK(h:Nat):List (Nat×Int×Value):= [(2,1,.map (some h)),(4,2,.map (some (h+1+1+1))),(6,5,.map (some (h+1+1)))]
def P9(h:Nat):Int->Option Value:=qZ [(1,.map (some h)),(2,.map (some (h+1+1+1))),(5,.map (some (h+1+1)))]
theorem Rh(h:Nat)(k:Int):∃ob:Option Nat,(P9 h k).getD (.map none)=.map ob/\(P9 h k).isSome=ob.isSome/\∀bk,ob=some bk->k=1/\bk=h\/k=2/\bk=h+1+1+1\/k=5/\bk=h+1+1:=by
 unfold P9 qZ qZ qZ qZ;by_cases b:k=1;·exact⟨some h,by simp[b],by simp[b],fun bk e=>by cases e;exact .inl ⟨b,rfl⟩⟩
 by_cases a:k=2;·exact⟨some (h+1+1+1),by simp[a],by simp[a],fun bk e=>by cases e;exact .inr (.inl ⟨a,rfl⟩)⟩
 by_cases c:k=5;·exact⟨some (h+1+1),by simp[c],by simp[c],fun bk e=>by cases e;exact .inr (.inr ⟨c,rfl⟩)⟩
 exact⟨none,by simp[b,a,c],by simp[b,a,c],fun bk e=>by cases e⟩
theorem Ri{w W:World}{lb fb cb rb eb xb B:Nat}{M:List Nat}{C:List Value}{v4 v5:Value}{n4 n5 bk:Nat}{lt:List dA}{lr:List aJ}{y:bK}(X:XS w W lb fb cb rb eb h (h+1+1+1) (h+1+1) xb B (dP r) (dQ r) (jF r) M C v4 n4 lt v5 n5 lr)
 (ho:y.1=1/\bk=h\/y.1=2/\bk=h+1+1+1\/y.1=5/\bk=h+1+1) (ok:ZG r y):∃nm,dB W bk nm nm.length/\lU nm y.2.1 y.2.2:=by
 rcases ho with⟨e,rfl⟩|⟨e,rfl⟩|⟨e,rfl⟩;·exact⟨_,X.re.ic,ok.2.1 e⟩
 ·exact⟨_,X.re.ir,ok.2.2.1 e⟩
 ·exact⟨_,X.it,ok.2.2.2 e⟩
theorem NU(w:World):(zeroValue 262).run prog w=.ok (.map none) w:=pk
theorem UQ{M:List Nat}{w:World}(hr:dG w M r s1 s2 s3 s4 s5 s6 s7)(hg:ZH r)(ht:Tab w)(hM:b_ M w):
 Calls prog 197 #[.agg (aV r s1 s2 s3 s4 s5 s6 s7).toArray] w fun e w'=>∃A4 c4 A5 c5,e=.returned (.tuple #[.agg (xC r s1 s2 s3 (.slice A4 s4.n c4) (.slice A5 s5.n c5) s6 s7).toArray,.int .i64 0])/\Sl dA w' M A4 s4.n c4 r.ties/\Sl aJ w' M A5 s5.n c5 r.rounds/\Below w w w':=by
 refine wid ?_;obtain⟨W1,ca,F1⟩:=dR (((Fr.nil w).a w (aV r s1 s2 s3 s4 s5 s6 s7) 28).a (w+1) nR 28);refine op1 F1 ?_;intros;have n1:=hr.aT.len;have n2:=hr.bonus.len;have n3:=hr.malus.len;have n4:=hr.ties.len;have n5:=hr.rounds.len;have HL:=oK n1 n2 n3 n4 n5;have H:=Hd ((hr.more (b:=w+1) pj).go F1.bl);have HF:=Hd F1;have HG:=Hd hg;have HT:=Hd ht;have HM:=Hd hM;have aq:=Hd (show ∀q,q∈(w.heap.size+1)::M->q<W1.heap.size from fun q O=>by
  have h1:=F1.mJ 1;rcases cD.1 O with rfl|O;·exact h1
  have:=hM q O;omega)
 have HN:=h_ (show s1.n<=1000 by have:=hg.len;omega) (show s2.n+s3.n<=1000 by have:=hg.len;omega) (show s4.n<=1000 by have:=hg.len;omega) (show s5.n<=1000 by have:=hg.len;omega);have HO:=h_ (n1▸hg.o1) (n2▸n3▸hg.o2) (n4▸hg.o3) (n5▸hg.o4);have mm:=Kt;clear F1 hr hg ht hM n1 n2 n3 n4 n5;refine ent func197 ntmps197 ?_
 gi_wp2_with (first
  |(refine Cl 243 (qm r.name _ H9.out.tab) ?_;rintro e z ⟨rfl,uU⟩;rw[HG.out.name];have ZL:=Hd (H9.out.go uU);have bx:=h_ (J9.a.go uU) (J9.b.go uU) (J9.c.go uU) (J9.w.go uU);obtain⟨XF,bY,aK,ad⟩:=fP (w:=z) ((((Fr.nil z).a z [false] 4).a (z+1) [.func (.func 244) #[] #[.pointer (some ⟨z,0,none⟩)]] 273).a (z+1+1) [.func (.func 245) #[] #[.pointer (some ⟨z+1,0,none⟩),.pointer (some ⟨F+1+1+1+1,0,none⟩),.pointer (some ⟨F+1+1+1+1+1,0,none⟩),.pointer (some ⟨z+1+1,0,none⟩)]] 274);have ZJ:=ZL.out.go aK;obtain⟨XW,hU⟩:=aC (fM XF (w.heap.size+1) 0 (aV r s1 s2 s3 s4 s5 s6 s7));have L:=Hd (UK ZL.out bx.out aK ⟨ad.aQ 0 0,ad.zN 0 0⟩ ⟨ad.aQ 1 0,ad.zN 1 0⟩ ⟨ad.aQ 2 0,ad.zN 2 0⟩ HG.out HL.out (fun q O=>by have:=aq.out q O;have:=ar.out;have:=ZL.out.vr.lt;omega) hU);have bG:=hU;simp only[fM,dC,Nat.reduceAdd]at bG;have J:=ZJ.f;refine op1 J ?_;intros;have bi:=L.out.vf.1;have bZ:=L.out.vc.1;have b3:=L.out.vr.1;have b4:=L.out.ve.1;have ce:=L.out.vl.1;have aU:=L.out.vl.2;obtain⟨x0,_⟩:=L.out.s.x 0 _ rfl;obtain⟨x1,_⟩:=L.out.s.x 1 _ rfl;obtain⟨x2,_⟩:=L.out.s.x 2 _ rfl;obtain⟨x3,_⟩:=L.out.s.x 3 _ rfl;obtain⟨x4,y4⟩:=L.out.s.x 4 _ rfl;obtain⟨x5,y5⟩:=L.out.s.x 5 _ rfl;clear uU J hU ad ZJ)
  |(refine Cl 241 (Gs H8.out.rs.rounds HN.w rfl HG.out.z4 H8.out.tab J8.w po) ?_;rintro e w9 ⟨rfl,UR,be⟩;rw[HG.out.a4,HO.w];have H9:=Hd (H8.out.turn J8.w UR pj pj);have J9:=h_ (J8.a.kb UR pj) (J8.b.kb UR pj) (J8.c.kb UR pj) be;have J:=H9.out.f;refine op1 J ?_;intros;clear UR be J)
  |(refine Cl 239 (Gp H7.out.rs.ties HN.c rfl HG.out.z3 H7.out.tab J7.c po) ?_;rintro e w8 ⟨rfl,am,bd⟩;rw[HG.out.a3,HO.c];have H8:=Hd (H7.out.turn J7.c am pj pj);have J8:=h_ (J7.a.kb am pj) (J7.b.kb am pj) bd (J7.w.kb am pj);have J:=H8.out.f;refine op1 J ?_;intros;have v3:=H8.out.vr.1;clear am bd J)
  |(refine Cl 236 (Gm H6.u HN.b rfl HG.out.z2 H6.a.tab J6.b po) ?_;rintro e w7 ⟨rfl,UU,bb⟩;rw[HG.out.a2,HO.b];have H7:=Hd (H6.a.turn J6.b UU pj pj);have J7:=h_ (J6.a.kb UU pj) bb (J6.c.kb UU pj) (J6.w.kb UU pj);have J:=H7.out.f;refine op1 J ?_;intros;clear UU bb J)
  |(refine Cl 237 (CW (H5.out.rs.bonus) (H5.out.rs.malus) (F5.out.aQ 0 0) (F5.out.aQ 0 1) (by have:=HN.b;omega)) ?_;rintro e w6 ⟨v,rfl,UW,aj⟩;obtain⟨A6,c6,rfl,a9⟩:=UW.sl (by have:=HN.b;omega) (H5.out.ai3 (fun q O=>by have:=aq.out q O;have:=ar.out;have:=H5.out.vr.lt;omega));have H6:=Hd2 (H5.out.go aj) a9;have J6:=h_ (J5.a.go aj) (J5.b.go aj) (J5.c.go aj) (J5.w.go aj);have J:=H6.a.f;refine op1 J ?_;intros;clear aj UW a9 J)
  |(refine Cl 234 (Gj H3.out.rs.aT HN.a rfl HG.out.z1 H3.out.tab J3.a cw) ?_;rintro e w4 ⟨rfl,UY,ba⟩;rw[HG.out.a1,HO.a];obtain⟨W5,CZ,Z,G5⟩:=fP (w:=w4) ((Fr.nil w4).a w4 [.slice s2.A s2.n s2.c,.slice s3.A s3.n s3.c] 23);have H4:=Hd (H3.out.turn J3.a UY pD pj);have H5:=Hd (H4.out.go Z);have J5:=h_ (ba.go Z) ((J3.b.kb UY pj).go Z) ((J3.c.kb UY pj).go Z) ((J3.w.kb UY pj).go Z);have F5:=Hd G5;have J:=H4.out.f;refine op1 J ?_;intros;clear UY ba Z G5 J)
  |(refine Cl 233 (Gh H.out HG.out.parts) ?_;rintro e F ⟨rfl,hb⟩;rw[HG.out.small];obtain⟨W3,cc,R⟩:=Gx F (r.aT.map fun x=>x.1) ((r.bonus++r.malus).map fun x=>x.1) (r.ties.map fun x=>x.1) (r.rounds.map fun x=>x.1);have H3:=Hd (RB.of (HF.out.go hb) (tab_below (tab_below HT.out HF.out.bl) hb) (H.out.go hb) R);have J3:=h_ R.c R.i R.t R.r;have ar:=Hd hb.size;have J:=H3.out.f;refine op1 J ?_;intros;have v1:=R.vc.1;have v2:=R.vr.1;clear hb J R)
  |fail)
 have bU:=ah (L.out.fr.aQ 0 4);have bV:=ah (L.out.fr.aQ 0 5);have HS:=Hd (L.out.s.go pE.drew);refine aP [] 7 pk pk ?_;refine ay 0 ?_;refine ay 1 ?_;refine ay 3 ?_;refine ay 4 ?_;refine eU 2 fun K E=>?_;gi_wp2;refine Cl 247 (Q8 (HS.out.sl L.out.rs.ties (o:=none) (.inr rfl)) (by have:=HN.out;omega)) ?_;rintro e ci ⟨v4,rfl,o4,hb4⟩;obtain⟨A4,c4,rfl⟩:=o4.shape;have HS:=Hd (HS.out.tie hb4 o4);refine E _ _ ⟨?_,?_⟩;clear E K;·exact bq hb4 []
 refine lit ?_;clear hb4 o4;refine ay 6 ?_;refine eU 5 fun K E=>?_;gi_wp2;refine Cl 248 (JZ (HS.out.sl L.out.rs.rounds (o:=some (.slice A4 s4.n c4)) (.inl rfl)) (by have:=HN.out;omega)) ?_;rintro e bW ⟨v5,rfl,o5,Z⟩;obtain⟨A5,c5,rfl⟩:=o5.shape;have HS:=Hd (HS.out.rnd Z o5);obtain⟨bA,bB⟩:=aC (bW.setCell ⟨w+1,4,none⟩ (.slice A4 s4.n c4));obtain⟨bX,bC⟩:=aC (bA.setCell ⟨w+1,5,none⟩ (.slice A5 s5.n c5));obtain⟨aE,-⟩:=HS.out.put (j:=4) rfl _ bB;obtain⟨bj,-⟩:=aE.put (j:=5) rfl _ bC;have q1:=aq.out (w.heap.size+1) cw;have q2:=ar.out;have q3:=ZL.out.vr.lt;have HX:=Hd (UL (C:=xC r s1 s2 s3 (.slice A4 s4.n c4) (.slice A5 s5.n c5) s6 s7) L.out bj pj pj pj (by have:=HN.out;have:=HL.out;simp;omega) cw);obtain⟨M3,R⟩:=aC (z.heap.size::F.heap.size::(F.heap.size+1)::(F.heap.size+1+1)::(F.heap.size+1+1+1)::(w.heap.size+1)::M);rw[R]at HX;have uT:=Hd R;obtain⟨B,hB⟩:=aC XW.heap.size;rw[hB]at HX;have u4:=(HX.out.x 4 _ rfl).1;have u5:=(HX.out.x 5 _ rfl).1;clear R hB;obtain⟨z4,f4⟩:=HS.out.x 4 _ rfl;obtain⟨z5,f5⟩:=aE.x 5 _ rfl;refine E _ _ ⟨?_,?_⟩;clear E K;·exact bq Z []
 refine lit ?_;clear Z o5 aE bj bU bV q1 q2 q3;refine iq 3 ?_;refine jW fun K E P Q=>?_;gi_wp2;refine jW fun K E P Q=>?_;gi_wp2;refine jW fun K E P Q=>?_;gi_wp2;refine et _ ?_;simp only[cu];gi_wp2;gi_loopw[116] (fun i wr=>∃k:Nat,k<=s4.n/\i=k/\Hid (XS w wr z.heap.size (z.heap.size+1) (F.heap.size+1+1+1+1) (F.heap.size+1+1+1+1+1) (z.heap.size+1+1) F.heap.size (F.heap.size+1+1+1) (F.heap.size+1+1) (w.heap.size+1) B (dP r) (dQ r) (jF r) M3 (xC r s1 s2 s3 (.slice A4 s4.n c4) (.slice A5 s5.n c5) s6 s7) (.slice A4 s4.n c4) s4.n r.ties (.slice A5 s5.n c5) s5.n r.rounds)) (fun i _=>s4.n-(intOf i).toNat);case atStart=>exact⟨0,cf _,rfl,HX⟩
 case round=>
  obtain⟨k,hk,rfl,G⟩:=hrel;by_cases ai:k<s4.n
  ·obtain⟨t,ao⟩:=dW r.ties k (by rw[HL.d];exact ai);obtain⟨g,cap,e⟩:=qA G.out.o4 (lf (cf _) ai);injection e with eA _ ec;subst eA;subst ec;obtain⟨es,ac,N⟩:=G.out.o4.get ao;obtain⟨D,m,d,rfl,aB⟩:=vJ ac;have y4:=(G.out.x 4 _ rfl).1;have k1:wr.cell? ⟨g,k*2+1,none⟩=some (.slice D m d):=(N 1 _ rfl).1;have j1:wr.frozen? ⟨g,k*2+1,none⟩=false:=(N 1 _ rfl).2;have hm:m<=100000:=by have:=HG.out.NT t (bh ao);have:=aB.len;omega
   have HK:=fB ao aB hm;clear ao ac N aB hm
   gi_wp2_with (first
    |(refine Cl 249 (Q9 HK.b HK.v) ?_;rintro e aG ⟨v2,rfl,ok,hb⟩;obtain⟨A2,c2,rfl⟩:=ok.shape;obtain⟨cj,bF⟩:=aC (aG.setCell ⟨g,k*2+1,none⟩ (.slice A2 m c2));have HI:=Hd (UM G.out HK.a HK.v ok hb bF);have k2:aG.cell? ⟨g,k*2+1,none⟩=some (.slice D m d):=(hb.cell (p:=⟨g,k*2+1,none⟩) (bw wr _ k1)).trans k1;have j2:aG.frozen? ⟨g,k*2+1,none⟩=false:=(hb.frozen (p:=⟨g,k*2+1,none⟩) (bw wr _ k1)).trans j1;have k3:=HI.v;clear ok hb)
    |fail)
   gi_loopw[136] (fun i wr=>∃j:Nat,j<=m/\i=.int .i64 j/\Hid (XS w wr z.heap.size (z.heap.size+1) (F.heap.size+1+1+1+1) (F.heap.size+1+1+1+1+1) (z.heap.size+1+1) F.heap.size (F.heap.size+1+1+1) (F.heap.size+1+1) (w.heap.size+1) B (dP r) (dQ r) (jF r) M3 (xC r s1 s2 s3 (.slice (some ⟨g,0,none⟩) s4.n c4) (.slice A5 s5.n c5) s6 s7) (.slice (some ⟨g,0,none⟩) s4.n c4) s4.n r.ties (.slice A5 s5.n c5) s5.n r.rounds/\bD bK 113 wr (g::(bP (.slice A5 s5.n c5)++M3)) B (.slice A2 m c2) m t.2/\wr.cell? ⟨g,k*2+1,none⟩=some (.slice A2 m c2))) (fun i _=>m-(intOf i).toNat);case atStart=>exact⟨0,cf _,rfl,HI⟩
   case round=>as_aux_lemma=>
     obtain⟨j,hj,rfl,Y⟩:=hrel;by_cases ax:j<m
     ·obtain⟨y,ab⟩:=dW t.2 j (by rw[HK.b.len];exact ax);obtain⟨q,cq,e⟩:=qA Y.b (lf (cf _) ax);injection e with eA _ ec;subst eA;subst ec;obtain⟨es,ac,N⟩:=Y.b.get ab;obtain⟨rfl,i1,i2⟩:=rd_key ac;have k4:=Y.v;have XD:=HK.v;have b0:_=_:=(N 0 _ rfl).1;have b1:_=_:=(N 1 _ rfl).1;have b2:_=_:=(N 2 _ rfl).1;have d2:_=_:=(N 2 _ rfl).2;simp only[show Rep.sz bK=3 from rfl,eB]at b0 b1 b2 d2;have f1:=Y.a.re.f.1;have f2:=Y.a.re.c.1;have f3:=Y.a.re.r.1;gi_wp2;have g2:=BF f2;have g3:=BF f3;have g4:=BF k4;have g5:=BF b0;have cg:=UE;have bM:=i1;have HY:=Hd2 ab i2;clear ab i2 ac N;refine aP [wr.heap.size] 21 pk pk ?_;refine ay 1 ?_;refine ay 3 ?_;refine ay 5 ?_;refine ay 8 ?_;refine ay 9 ?_;refine ay 10 ?_;refine ay 11 ?_;refine ay 12 ?_;refine ay 13 ?_;refine ay 14 ?_;refine ay 15 ?_;obtain⟨wm,ap⟩:=aC (wr.drew.alloc (.map #[] 0));have aI:=Hd2 (show MV (.map none::(ZK F.heap.size).map fun e=>e.2.2) wm wr.heap.size 0 (fun _=>none) by rw[<-ap];exact MV.new _ wr.drew) (show Below wr wr wm by rw[<-ap];exact(bL _ wr).drew.alloc pD _);have kp:Keeps [wr] wr.drew wm:=by rw[<-ap];exact(cG _ _).alloc _
      refine eU 0 fun K E=>?_;gi_wp2;refine⟨kp,?_⟩;refine lit ?_;clear kp ap g2 g3 g4 g5;refine Rf (x:=.tmp 140) (ZK F.heap.size) _ wr.heap.size aI.a ?_ underlying281 pk cw (by simp[i64]) po po po ?_;rotate_left;·refine oe.2 ⟨⟨_,_,_,rfl,rfl,rfl,rfl,pk,pk⟩,?_⟩;refine oe.2 ⟨⟨_,_,_,rfl,rfl,rfl,rfl,pk,pk⟩,?_⟩;refine oe.2 ⟨⟨_,_,_,rfl,rfl,rfl,rfl,pk,pk⟩,fun _ h=>by cases h⟩
      intro W m9 aa mv;have aa:=aI.u.trans aa;refine ay 7 ?_;have bf:MV _ W wr.heap.size m9 (P9 F.heap.size):=mv;have hl:=bf.look_ok underlying281 (NU W) cw bM;obtain⟨ob,a0,a5,a6⟩:=Rh F.heap.size y.1;rw[a0,a5]at hl;refine eU 16 fun K E=>?_;gi_wp2;refine⟨cG _ _,?_⟩;refine lit ?_;refine ay 17 ?_;refine ay 18 ?_;refine ay 19 ?_;refine ay 20 ?_;have bp:=Hd a6;have S:=fB (Y.a.go aa) (Y.b.go aa) ((aa.cell (p:=⟨g,k*2+1,none⟩) (bw wr _ k4)).trans k4);have m1:=(aa.cell (p:=⟨q,j*3+1,none⟩) (bw wr _ b1)).trans b1;have m2:=(aa.cell (p:=⟨q,j*3+2,none⟩) (bw wr _ b2)).trans b2;have m3:=(aa.frozen (p:=⟨q,j*3+2,none⟩) (bw wr _ b2)).trans d2;have m4:=S.v;have m5:=S.a.re.f.1;clear aa b0 b1 b2 d2 k4 f1 f2 f3 a0 a5 a6 mv bf hl
      cases ob with
      |none=>refine iq 1 ?_;refine jW fun K E P Q=>?_;gi_wp2;refine et _ ?_;simp only[cu];gi_wp2;exact⟨⟨j+1,pj,by go_num,S⟩,by simp[intOf];omega⟩
      |some bk=>
       refine iq 1 ?_;refine jW fun K E P Q=>?_;gi_wp2;refine et _ ?_;simp only[cu];gi_wp2;obtain⟨nm,aZ,a7⟩:=Ri S.a (bp.out bk rfl) (HG.out.keys t (bh HK.a) y (bh HY.a));have ag:=S.a.lt2.2.1;have af:=(S.a.o4.lt (k:=g) rfl).1;have a8:=(S.b.lt (k:=q) rfl).1;have z1:=aF (Mr:= [z.heap.size]) (by simp;try omega) m4;have z2:=aF (Mr:= [z.heap.size]) (by simp;try omega) m5;have z3:=aF (Mr:= [z.heap.size]) (by simp;try omega) m1;have ae:=oK aZ a7 ag af a8;have bo:=Hd (HG.out.keys t (bh HK.a) y (bh HY.a)).1;clear aZ a7 ag af a8;refine aP [z.heap.size] 16 pk pk ?_;refine ay 0 ?_;refine ay 1 ?_;refine ay 2 ?_;refine ay 3 ?_;refine ay 4 ?_;refine ay 5 ?_;refine ay 6 ?_;refine ay 7 ?_;refine ay 8 ?_;refine ay 9 ?_;refine ay 10 ?_;refine ay 11 ?_;refine ay 12 ?_;refine ay 13 ?_;refine ay 14 ?_;refine eU 15 fun K E=>?_;gi_wp2;refine Cl 244 (xE (lo:=false) (w:=W.drew) (ae.a.block rfl) rfl bo.out (S.a.lo.block rfl)) ?_;rintro e W2 ⟨rfl,T,v2⟩;rw[ae.out.2.1.1]at v2;rw[ae.out.2.1.2];have X:KB z.heap.size W W2:=⟨⟨T.k.size,T.k.block⟩,(bL _ W).drew.trans T.bl⟩;have bs:=fB (S.a.kb X v2) (S.b.spare X.k (fun x hx=>by rw[bz]at hx;subst hx;exact bE _ (cP _ S.a.lM)) (fun x hx=>by rw[bz]at hx;subst hx;exact ae.c)) (X.k.cell (by have:=ae.v;simp;try omega) m4);have m6:=X.k.cell (by have:=ae.v;simp;try omega) m2;have m7:W2.frozen? ⟨q,j*3+2,none⟩=false:=(jB (o:=j*3+2) ⟨m2,m3⟩ (X.k.block q (bw W _ m2) (by have:=ae.v;simp;try omega))).2;have hno:=aN m6;refine E _ _ ⟨?_,?_⟩;clear E K;·exact T.k
       refine lit ?_;clear T X v2 m1 m2 m3 m4 m5 z1 z2 z3;refine iq 3 ?_;refine jW fun K E P Q=>?_;gi_wp2;refine jW fun K E P Q=>?_;gi_wp2;refine jW fun K E P Q=>?_;gi_wp2;refine et _ ?_;simp only[cu];gi_wp2;exact⟨⟨j+1,pj,by go_num,bs⟩,by simp[intOf];omega⟩
     ·have I:=Hd Y.a;clear Y;have ek:j=m:=pj;clear hj ax;subst ek;have bJ:=HN.c;gi_wp2;exact⟨⟨k+1,pj,rfl,I⟩,by simp[intOf];omega⟩
  ·have I:=Hd G.out;clear G;have ek:k=s4.n:=pj;clear hk ai;subst ek;have u5:=(I.out.x 5 _ rfl).1;gi_wp2;gi_loopw[180] (fun i wr=>∃k:Nat,k<=s5.n/\i=k/\Hid (XS w wr z.heap.size (z.heap.size+1) (F.heap.size+1+1+1+1) (F.heap.size+1+1+1+1+1) (z.heap.size+1+1) F.heap.size (F.heap.size+1+1+1) (F.heap.size+1+1) (w.heap.size+1) B (dP r) (dQ r) (jF r) M3 (xC r s1 s2 s3 (.slice A4 s4.n c4) (.slice A5 s5.n c5) s6 s7) (.slice A4 s4.n c4) s4.n r.ties (.slice A5 s5.n c5) s5.n r.rounds)) (fun i _=>s5.n-(intOf i).toNat);case atStart=>exact⟨0,cf _,rfl,I⟩
   case round=>as_aux_lemma=>
     obtain⟨k,hk,rfl,G⟩:=hrel;by_cases ai:k<s5.n
     ·have hs5:=HN.w;obtain⟨y,ab⟩:=dW r.rounds k (by rw[HL.x];exact ai);obtain⟨g,cap,e⟩:=qA G.out.o5 (lf (cf _) ai);injection e with eA _ ec;subst eA;subst ec;obtain⟨es,ac,N⟩:=G.out.o5.get ab;obtain⟨D,m,d,rfl,bH,cd,a_⟩:=jg ac;have y5:=(G.out.x 5 _ rfl).1;have t6:=(N 6 _ rfl).1;have t7:=(N 7 _ rfl).1;have t8:=(N 8 _ rfl).1;have t9:=(N 9 _ rfl).1;have al:=(N 10 _ rfl).1;have f1:=G.out.re.e.1;have ag:=G.out.lt2.2.1;have af:=(G.out.o5.lt (k:=g) rfl).1;simp only[show Rep.sz aJ=13 from rfl]at t6 t7 t8 t9 al;gi_wp2;have z1:=aF (Mr:= [z.heap.size]) (by simp;try omega) t6;have z2:=aF (Mr:= [z.heap.size]) (by simp;try omega) t7;have z3:=aF (Mr:= [z.heap.size]) (by simp;try omega) t8;have z4:=aF (Mr:= [z.heap.size]) (by simp;try omega) t9;have z5:=aF (Mr:= [z.heap.size]) (by simp;try omega) al;have z6:=aF (Mr:= [z.heap.size]) (by simp;try omega) f1;refine aP [z.heap.size] 7 pk pk ?_;have HY:=h_ (HG.out.rounds y (bh ab)) ab a_ (HG.out.parts y (bh ab));have aH:=fB ag af (N 12 _ rfl);clear ab a_ ac N ag af;refine ay 0 ?_;refine ay 1 ?_;refine ay 2 ?_;refine ay 3 ?_;refine ay 4 ?_;refine ay 5 ?_;refine eU 6 fun K E=>?_;gi_wp2;refine Cl 245 (UA (au y) (w:=wr.drew) (lo:=false) (M:=g::(bP (.slice A4 s4.n c4)++M3)) (HY.c.go pE.drew) HY.out.1.1 (by have:=HY.w;omega) (G.out.go pE.drew).re (G.out.go pE.drew).lo (bE _ (cP _ G.out.lM)) (XY G.out)) ?_;rintro e W2 ⟨D2,m2,d2,rfl,aA,T,v2⟩;rw[HY.out.1.2.1]at v2;rw[(Gy HY.out.1.2.2.1).2]at aA;rw[(Gy HY.out.1.2.2.1).1];have X:KB z.heap.size wr W2:=⟨⟨T.k.size,T.k.block⟩,(bL _ wr).drew.trans T.bl⟩;obtain⟨W3,hU⟩:=aC (fM W2 g (k*13+6) [(au y).kind,(au y).name,(au y).n,(au y).d,.slice D2 m2 d2]);have X3:=Hd (UN G.out HY.b X v2 aA hU);obtain⟨b5,aW,ak⟩:=(G.out.kb X v2).o5.get HY.b;obtain⟨_,_,_,rfl,-⟩:=jg aW;have t6:=ak 6 _ rfl;have t7:=ak 7 _ rfl;have t8:=ak 8 _ rfl;have t9:=ak 9 _ rfl;have al:=ak 10 _ rfl;obtain⟨b6,aX,aw⟩:=X3.out.o5.get HY.b;obtain⟨_,_,_,rfl,-⟩:=jg aX;obtain⟨bT,-⟩:=aw 11 _ rfl;obtain⟨bn,aU⟩:=aw 12 _ rfl;simp only[show Rep.sz aJ=13 from rfl]at t6 t7 t8 t9 al bT bn aU;obtain⟨t6,g6⟩:=t6;obtain⟨t7,g7⟩:=t7;obtain⟨t8,g8⟩:=t8;obtain⟨t9,g9⟩:=t9;obtain⟨al,b9⟩:=al;simp only[fM,oE,Nat.reduceAdd]at hU;refine E _ _ ⟨?_,?_⟩;clear E K;·exact T.k
      refine lit ?_;clear T X v2 aW ak aX aw aA z1 z2 z3 z4 z5 z6;rcases HY.out.1.2.2.2.2 with⟨e1,e2⟩|⟨e1,e2⟩;·have hno:=aN (show W3.cell? ⟨g,k*13+12,none⟩=some (.int .i64 (-1)) by rw[<-e2];exact bn);refine iq 3 ?_;refine jW fun K E P Q=>?_;gi_wp2;refine jW fun K E P Q=>?_;gi_wp2;refine jW fun K E P Q=>?_;gi_wp2;refine et _ ?_;simp only[cu];gi_wp2;exact⟨⟨k+1,pj,by go_num,X3⟩,by simp[intOf];omega⟩
      obtain⟨W4,I4⟩:=aC (W3.setCell ⟨g,k*13+12,none⟩ (.int .i64 (-1)));have X4:=Hd (UO X3.out HY.b pA I4);have az:=gl (a:=((y.1,y.2.1,y.2.2.1,y.2.2.2.1,y.2.2.2.2.1,y.2.2.2.2.2.1,au y,qX y,(-1:Int)):aJ)) (l:=r.rounds) (bu.1 HY.b).1;obtain⟨b7,aL,av⟩:=X4.out.o5.get az;obtain⟨_,_,_,rfl,-⟩:=jg aL;obtain⟨bg,-⟩:=av 11 _ rfl;obtain⟨bO,bi⟩:=av 12 _ rfl;simp only[show Rep.sz aJ=13 from rfl]at bg bO bi;have f4:=X4.out.re.f.1;have XZ:=Hd az;have bI:=bH.2.2.2;have e3:(qX y).toList.isEmpty=false:=by simpa using e1
      clear aL av az;refine iq 3 ?_;refine jW fun K E P Q=>?_;gi_wp2;refine jW fun K E P Q=>?_;gi_wp2;refine jW fun K E P Q=>?_;gi_wp2;refine et _ ?_;simp only[cu];gi_wp2;have ag:=aH.a;have af:=aH.b;have z1:=aF (Mr:= [z.heap.size]) (by simp;try omega) bg;have z2:=aF (Mr:= [z.heap.size]) (by simp;try omega) f4;clear ag af;refine aP [z.heap.size] 8 pk pk ?_;refine ay 0 ?_;refine ay 1 ?_;refine ay 2 ?_;refine ay 3 ?_;refine ay 4 ?_;refine ay 5 ?_;refine ay 6 ?_;refine eU 7 fun K E=>?_;gi_wp2;refine Cl 244 (xE (lo:=false) (w:=W4.drew) (X4.out.it.block rfl) rfl HY.out.1.2.2.2.1 (X4.out.lo.block rfl)) ?_;rintro e W5 ⟨rfl,jD,v5⟩;rw[e2.1]at v5;rw[e2.2];have aD:KB z.heap.size W4 W5:=⟨⟨jD.k.size,jD.k.block⟩,(bL _ W4).drew.trans jD.bl⟩;obtain⟨W6,X0⟩:=aC (W5.setCell ⟨g,k*13+12,none⟩ (.int .i64 (XE y)));have X6:=UO (X4.out.kb aD v5) XZ.out bI X0;rw[List.set_set,show((y.1,y.2.1,y.2.2.1,y.2.2.2.1,y.2.2.2.2.1,y.2.2.2.2.2.1,au y,qX y,XE y):aJ)=y from rfl,set_self HY.b]at X6;have bv:=Hd X6;obtain⟨b8,aY,aM⟩:=(X4.out.kb aD v5).o5.get XZ.out;obtain⟨_,_,_,rfl,-⟩:=jg aY;obtain⟨bN,bQ⟩:=aM 12 _ rfl;simp only[show Rep.sz aJ=13 from rfl]at bN bQ;refine E _ _ ⟨?_,?_⟩;clear E K;·exact jD.k
      refine lit ?_;clear jD aD v5 X6 aY aM z1 z2;refine iq 3 ?_;refine jW fun K E P Q=>?_;gi_wp2;refine jW fun K E P Q=>?_;gi_wp2;refine jW fun K E P Q=>?_;gi_wp2;refine et _ ?_;simp only[cu];gi_wp2;exact⟨⟨k+1,pj,by go_num,bv⟩,by simp[intOf];omega⟩
     ·have I:=Hd G.out;clear G;have ek:k=s5.n:=pj;clear hk ai;subst ek;have ch:=I.out.lo.1;obtain⟨c0,i0⟩:=I.out.x 0 _ rfl;obtain⟨c1,i1⟩:=I.out.x 1 _ rfl;obtain⟨c2,i2⟩:=I.out.x 2 _ rfl;obtain⟨c3,i3⟩:=I.out.x 3 _ rfl;obtain⟨aO,i4⟩:=I.out.x 4 _ rfl;obtain⟨aR,i5⟩:=I.out.x 5 _ rfl;obtain⟨c6,i6⟩:=I.out.x 6 _ rfl;obtain⟨c7,i7⟩:=I.out.x 7 _ rfl;obtain⟨c8,i8⟩:=I.out.x 8 _ rfl;have p0:=aN c0;have p1:=aN c1;have p2:=aN c2;have p3:=aN c3;have p4:=aN aO;have p5:=aN aR;have p6:=aN c6;have p7:=aN c7;have p8:=aN c8;gi_wp2;have an:∀q,q∈M->q∈M3:=fun q O=>by rw[<-uT.out];simp[O]
      have bJ:=HN.c;have hs5:=HN.w;obtain⟨_,_,e4,bR⟩:=(I.out.o4.UC (M':=M) (fun q O=>cP _ (an q O))).sl pj (fun q O=>I.out.bm q (an q O));obtain⟨_,_,e5,bS⟩:=(I.out.o5.UC (M':=M) (fun q O=>cP _ (an q O))).sl pj (fun q O=>I.out.bm q (an q O));cases e4;cases e5;exact⟨rfl,.tuple #[.agg (xC r s1 s2 s3 (.slice A4 s4.n c4) (.slice A5 s5.n c5) s6 s7).toArray,.int .i64 0],by simp[results,go_sem,c0,c1,c2,c3,aO,aR,c6,c7,c8],⟨A4,c4,A5,c5,rfl,bR,bS,I.out.bl⟩⟩
