/- Lemmas. -/
import Derived.Lib.SliceRun
import Derived.Test.YtfdmnogfflcllaaGreatDoorM18
set_option linter.unusedVariables false
set_option linter.unusedSimpArgs false
set_option maxRecDepth 100000
set_option maxHeartbeats 20000000
namespace Go.Proofs.YtfdmnogfflcllaaGreatDoor
open Go.Proofs.Tryz Go.RowKit Go.Shelf
theorem aj7{p:Prop}(h:p:=by gi_wp2;go_ret;exact⟨_,rfl,by
  have R:l= []:=by
   rcases HZ.out.at_ with g|⟨b,o,h,-⟩;·exact g
   cases h
  have hn:=HZ.out.len;subst R;cases hn;exact bD.nil _ _ _,bw _ _⟩):p:=h
theorem wO{p:Prop}(h:p:=by
 cases A with
 |none=>exact aj7
 |some a=>
  gi_wp2_with (first
   |(gi_at_builtin;refine cY rfl fun K i=>?_;refine aI _ _ _ rfl rfl rfl s.out (i _ _ ?_);clear i K)
   |fail)
  go_ret;exact⟨_,rfl,f.a,f.u⟩):p:=h
variable {b k j fb cb rb eb bc br:Nat}{us:List Value}{w':World}{cn rn:List ByteArray}{u0:Value}
instance:kJ ByteArray:=⟨by rintro w M x cs h u hu;have h:cs=_:=h;subst h;simp at hu;subst hu;rfl⟩
instance:kJ aU:=⟨by
 intro w M x cs h u hu;obtain⟨A,m,c,rfl,-,-⟩:=kH.sl h;simp at hu;rcases hu with rfl|rfl|rfl|rfl|rfl<;>rfl⟩
def iU(e:TypeId)(sz:Nat):Prop:=∃i z,prog.info? e=some i/\i.zero=some z/\i.size=sz/\z.cells.size=sz/\i.bytes<=200
theorem Q7:(prog.info? 66).map (fun i=>(i.zero,i.size,i.bytes))=some (some (.agg #[.int .i64 0,.string ⟨#[]⟩,.int .i64 0,.int .i64 0,.slice none 0 0]),5,64):=oF
theorem Ur:(prog.info? 113).map (fun i=>(i.zero,i.size,i.bytes))=some (some (.agg #[.int .i64 0,.string ⟨#[]⟩,.int .i64 0]),3,32):=oF
theorem Gt:(prog.info? 156).map (fun i=>(i.zero,i.size,i.bytes))=some (some (.agg #[.string ⟨#[]⟩,.int .i64 0,.int .i64 0]),3,32):=oF
theorem Us:(prog.info? 142).map (fun i=>(i.zero,i.size,i.bytes))=some (some (.agg #[.string ⟨#[]⟩,.slice none 0 0]),2,40):=oF
theorem NR:(prog.info? 68).map (fun i=>(i.zero,i.size,i.bytes))=some (some (.agg #[.string ⟨#[]⟩,.int .i64 0,.int .i64 0,.int .i64 0,.bool false,.bool false,.int .i64 0,.string ⟨#[]⟩,.int .i64 0,.int .i64 0,.slice none 0 0,.string ⟨#[]⟩,.int .i64 0]),13,136):=oF
theorem iU.mk'{e:TypeId}{sz:Nat}{z:Value}(h:(prog.info? e).map (fun i=>(i.zero,i.size,i.bytes))=some (some z,sz,b))(hz:z.cells.size=sz)(hb:b<=200):iU e sz:=by obtain⟨i,a,d,f,D⟩:=kO h;exact⟨i,z,a,d,f,hz,oE⟩
theorem uz{α:Type} [kJ α] {t e:TypeId}(ht:prog.underlying t=some (.slice e))(hi:iU e (Rep.sz α)){w:World}{M:List Nat}{A:Option Addr}{n c:Nat}{l:List α}(h:Sl α w M A n c l)(hn:n<=100000):
 ∃v w',(Builtin.append_ #[t,t] t #[.slice (some ⟨w,0,none⟩) 0 0,.slice A n c]).run prog (w.alloc (.cells #[] e))=.ok v w'/\bD α e w' M w.heap.size v n l/\Below w w w':=by
 obtain⟨i,z,f,o,p,q,s⟩:=hi;have u:=bD.lit (α:=α) (e:=e) w M (base:=w.heap.size) pc;have d:=(h.more (b:=w) pc).keep (w':=w.alloc (.cells #[] e)) (a_ ((bw w w).alloc pc _) _);obtain⟨C,W',x,V,B,-⟩:=u.uy (ty:=t) (t:=t) oO ht f o p q d (by have:=gp (show 0+n<=100000 by omega) s;omega) oE;rw[dm,de]at V;exact⟨C,W',x,V,(((bw w w).alloc pc _).grown B oO (fun k a=>by cases a;exact bh _))⟩
theorem CJ:iU 66 (Rep.sz aU):=iU.mk' Q7 rfl oE
theorem vK{M:List Nat}{A:Option Addr}{n c:Nat}{l:List aU}{w:World}(hx:Sl aU w M A n c l)(hn:n<=100000):
 Calls prog 246 #[.slice A n c] w fun e w'=>∃v,e=.returned v/\bD aU 66 w' M w.heap.size v n l/\Below w w w':=by
 refine wid ?_;obtain⟨v,w2,p,V,q⟩:=uz underlying64 CJ hx hn;have s:=Hd p;have f:=Hd2 V q;have HZ:=Hd hx;clear p V q hx hn;have t:∀(w:World) (a:Option Addr) (n c n' d:Nat),(binOp .eql 64 (.slice a n c) (.slice none n' d)).run prog w=.ok (.bool a.isNone) w:=fun w a n c n' d=>kh w _ _ a n c n' d underlying64;refine ent func246 rfl ntmps246 ?_;exact wO
theorem Gu:iU 142 (Rep.sz dA):=iU.mk' Us rfl oE
theorem Q8{M:List Nat}{A:Option Addr}{n c:Nat}{l:List dA}{w:World}(hx:Sl dA w M A n c l)(hn:n<=100000):
 Calls prog 247 #[.slice A n c] w fun e w'=>∃v,e=.returned v/\bD dA 142 w' M w.heap.size v n l/\Below w w w':=by
 refine wid ?_;obtain⟨v,w2,p,V,q⟩:=uz underlying24 Gu hx hn;have s:=Hd p;have f:=Hd2 V q;have HZ:=Hd hx;clear p V q hx hn;have t:∀(w:World) (a:Option Addr) (n c n' d:Nat),(binOp .eql 24 (.slice a n c) (.slice none n' d)).run prog w=.ok (.bool a.isNone) w:=fun w a n c n' d=>kh w _ _ a n c n' d underlying24;refine ent func247 rfl ntmps247 ?_;exact wO
theorem sN:iU 68 (Rep.sz aJ):=iU.mk' NR rfl oE
theorem JZ{M:List Nat}{A:Option Addr}{n c:Nat}{l:List aJ}{w:World}(hx:Sl aJ w M A n c l)(hn:n<=100000):
 Calls prog 248 #[.slice A n c] w fun e w'=>∃v,e=.returned v/\bD aJ 68 w' M w.heap.size v n l/\Below w w w':=by
 refine wid ?_;obtain⟨v,w2,p,V,q⟩:=uz underlying25 sN hx hn;have s:=Hd p;have f:=Hd2 V q;have HZ:=Hd hx;clear p V q hx hn;have t:∀(w:World) (a:Option Addr) (n c n' d:Nat),(binOp .eql 25 (.slice a n c) (.slice none n' d)).run prog w=.ok (.bool a.isNone) w:=fun w a n c n' d=>kh w _ _ a n c n' d underlying25;refine ent func248 rfl ntmps248 ?_;exact wO
theorem aaN:iU 113 (Rep.sz bK):=iU.mk' Ur rfl oE
theorem Q9{M:List Nat}{A:Option Addr}{n c:Nat}{l:List bK}{w:World}(hx:Sl bK w M A n c l)(hn:n<=100000):
 Calls prog 249 #[.slice A n c] w fun e w'=>∃v,e=.returned v/\bD bK 113 w' M w.heap.size v n l/\Below w w w':=by
 refine wid ?_;obtain⟨v,w2,p,V,q⟩:=uz underlying110 aaN hx hn;have s:=Hd p;have f:=Hd2 V q;have HZ:=Hd hx;clear p V q hx hn;have t:∀(w:World) (a:Option Addr) (n c n' d:Nat),(binOp .eql 110 (.slice a n c) (.slice none n' d)).run prog w=.ok (.bool a.isNone) w:=fun w a n c n' d=>kh w _ _ a n c n' d underlying110;refine ent func249 rfl ntmps249 ?_;exact wO
theorem XT{w:World}{base:Nat}{e:TypeId}{size g n cap:Nat}{cs:List Value}(h:w.ownsRow base e size (.slice (some ⟨g,0,none⟩) n cap) n cs)(k:Nat)(u:Value)(hk:k<n*size):
 (w.setCell ⟨g,k,none⟩ u).ownsRow base e size (.slice (some ⟨g,0,none⟩) n cap) n (cs.set k u):=by
 refine⟨by rw[fI];exact h.1,?_⟩;rcases h.2 with⟨a,_⟩|⟨t,s,d,a,hb,i,o,f,p,q⟩;·cases a
 ·cases a;refine .inr ⟨g,cap,d.setIfInBounds k u,rfl,hb,?_,o,f,by simpa using p,?_⟩;·simp only[World.setCell,Array.getElem?_modify,lL];rw[i];simp only[fY,Option.isSome_none,fT,nA]
  rw[<-q,Array.toList_setIfInBounds,List.take_set]
def fM(w:World)(b:Nat):Nat->List Value->World
 |_, []=>w
 |o,u::us=>fM (w.setCell ⟨b,o,none⟩ u) b (o+1) us
theorem qV{w:World}{b:Nat}:∀(us:List Value) (o:Nat) (w:World),Keeps [b] w (fM w b o us)
 | [],_,w=>cF _ w
 |u::us,o,w=>((cF [b] w).setCell (p:=⟨b,o,none⟩) (.inl oO) u).trans (qV (w:=w) us (o+1) _)
theorem aak{b s:Nat}(hs:s<=b):∀(us:List Value) (o:Nat) {w0 w:World},Below s w0 w->Below s w0 (fM w b o us)
 | [],_,_,_,h=>h
 |u::us,o,_,_,h=>aak hs us (o+1) (h.setCell (p:=⟨b,o,none⟩) hs u)
theorem J4{base:Nat}{e:TypeId}{size g n cap:Nat}:∀(us:List Value) (o:Nat) {w:World}{cs:List Value},w.ownsRow base e size (.slice (some ⟨g,0,none⟩) n cap) n cs->o+us.length<=n*size->
 ∃cs',(fM w g o us).ownsRow base e size (.slice (some ⟨g,0,none⟩) n cap) n cs'/\∀i,cs'[i]?=if o<=i/\i<o+us.length then us[i-o]? else cs[i]?
 | [],o,w,cs,h,_=>⟨cs,h,fun i=>by rw[if_neg oO]⟩
 |u::us,o,w,cs,h,ho=>by
  simp only[et]at ho;obtain⟨cs',h1,h2⟩:=J4 us (o+1) (XT h o u oE) oE;refine⟨cs',h1,fun i=>?_⟩;have hl:=h.1;rw[h2 i];simp only[et];by_cases e1:i=o;·subst e1;rw[if_neg oE,if_pos oE,fm oE];simp
  by_cases e2:o+1<=i/\i<o+1+us.length;·rw[if_pos e2,if_pos oE,show i-o=(i-(o+1))+1 by omega,fv]
  rw[if_neg e2,if_neg oE,fz oE]
section
variable {α:Type} [kJ α] {e:TypeId}{w:World}{M:List Nat}{base g n cap:Nat}{xs:List α}
theorem qA{v:Value}(h:bD α e w M base v n xs)(hn:0<n):∃g cap,v=.slice (some ⟨g,0,none⟩) n cap:=by
 obtain⟨cs,a,-⟩:=h.ex;rcases a.2 with⟨rfl,rfl⟩|⟨g,cap,d,rfl,-⟩;·omega
 exact⟨g,cap,rfl⟩
theorem bD.get(h:bD α e w M base (.slice (some ⟨g,0,none⟩) n cap) n xs){x:α}(hk:xs[k]?=some x):∃es,Rep.rd w (g::M) x es/\(∀j u,es[j]?=some u->w.cell? ⟨g,k*Rep.sz α+j,none⟩=some u/\w.frozen? ⟨g,k*Rep.sz α+j,none⟩=false):=by
 obtain⟨cs,f,o⟩:=h.ex;obtain⟨es,s,V⟩:=o k x hk;refine⟨es,s,fun j u q=>?_⟩;rcases f.2 with⟨a,_⟩|⟨B,t,z,a,hb,i,E,C,F,p⟩;·cases a
 cases a;have d:=V j u q;have D:=(bj.1 d).1;have:=f.1;rw[<-p,eI oE,iS]at d;exact⟨by simp[World.cell?,i,d],by simp[World.frozen?,i]⟩
theorem bD.afv(h:bD α e w M base (.slice (some ⟨g,0,none⟩) n cap) n xs){x0 x:α}(hk:xs[k]?=some x0)(hj:j+us.length<=Rep.sz α)
 (hr:∀es,Rep.rd w (g::M) x0 es->Rep.rd w (g::M) x (es.take j++us++es.drop (j+us.length))) (hw':fM w g (k*Rep.sz α+j) us=w'):
 bD α e w' M base (.slice (some ⟨g,0,none⟩) n cap) n (xs.set k x)/\Keeps [g] w w':=by
 subst hw';have t:=qV (w:=w) (b:=g) us (k*Rep.sz α+j) w;obtain⟨cs,C,o⟩:=h.ex;have s:k<n:=by rw[<-h.len];exact(bj.1 hk).1
 have E:(k+1)*Rep.sz α<=n*Rep.sz α:=dy _ s;rw[fX,fi]at E;obtain⟨B,G,V⟩:=J4 us (k*Rep.sz α+j) C oE;have z:Keeps (g::M) w (fM w g (k*Rep.sz α+j) us):=t.mono (fun x hx=>by rw[bE]at hx;subst hx;exact cd);refine⟨⟨by rw[fI];exact h.len,B,G,fun i y f=>?_⟩,t⟩;by_cases p:i=k
 ·subst p;obtain⟨es,a,b⟩:=o i x0 hk;rw[fm (by rw[h.len];exact s)]at f;cases f;have D:=nE a;refine⟨_,iN (hr es a) z,fun q u d=>?_⟩;rw[V];by_cases F:q<j;·rw[if_neg oE];rw[d_,di oS,eI F]at d;exact b q u d
  by_cases K:q<j+us.length
  ·rw[if_pos oE,show i*Rep.sz α+q-(i*Rep.sz α+j)=q-j by omega];rw[d_,cM oS,di oS]at d
   rwa [cI,gd oE]at d
  rw[if_neg oE];rw[cM oS,fq]at d;simp only[cH,cI]at d;rw[show j+us.length+(q-(min j es.length+us.length))=q by omega]at d;exact b q u d
 ·rw[fz (fun e=>p e.symm)]at f;obtain⟨es,a,b⟩:=o i y f;have D:=nE a;refine⟨es,iN a z,fun q u d=>?_⟩;have J:=(bj.1 d).1;rw[V,if_neg,b q u d];rcases lh i k with I|H;·have:=dy (Rep.sz α) (show i+1<=k by omega);rw[fX,fi]at this;omega
  have:=dy (Rep.sz α) (show k+1<=i by omega);rw[fX,fi]at this;omega
theorem bD.afw(h:bD α e w M base (.slice (some ⟨g,0,none⟩) n cap) n xs){x:α}(hk:k<n)(hr:Rep.rd w (g::M) x us)(hw':fM w g (k*Rep.sz α) us=w'):
 bD α e w' M base (.slice (some ⟨g,0,none⟩) n cap) n (xs.set k x)/\Keeps [g] w w':=by
 have q:=nE hr;obtain⟨i,d⟩:=dW xs k (by rw[h.len];exact hk);refine h.afv (j:=0) d oE (fun f a=>?_) hw';have:=nE a;rw[gO,de,cA oE,ef];exact hr
end
def qW(cn rn:List ByteArray)(k:Int)(s:ByteArray)(n:Int):Int:=if k=2 then(xA cn s:Nat)else if k=5 then(xA rn s:Nat)else n
def sO(cn rn:List ByteArray)(k:Int)(s:ByteArray):Bool:=if k=2 then xB cn s else if k=5 then xB rn s else false
mutual
def lC(cn rn:List ByteArray):aU->aU
 | .mk k s n d l=>.mk k s (qW cn rn k s n) d (E5 cn rn l)
def E5(cn rn:List ByteArray):List aU->List aU
 | []=> []
 |x::l=>lC cn rn x::E5 cn rn l
end
mutual
def iV(cn rn:List ByteArray):aU->Bool
 | .mk k s _ _ l=>sO cn rn k s||Gv cn rn l
def Gv(cn rn:List ByteArray):List aU->Bool
 | []=>false
 |x::l=>iV cn rn x||Gv cn rn l
end
mutual
def Ut:aU->Prop
 | .mk _ s _ _ l=>s.size<=maxLen/\XU l
def XU:List aU->Prop
 | []=>True
 |x::l=>Ut x/\XU l
end
theorem NS{x:aU}(h:Ut x):x.name.size<=maxLen/\XU x.l:=by cases x;rw[Ut]at h;exact h
theorem BA{y:aU}:∀{l:List aU},XU l->y∈l->Ut y
 |x::l,h,hy=>by
  rw[XU]at h;rcases cB.1 hy with rfl|hy;·exact h.1
  exact BA h.2 hy
theorem BD(cn rn:List ByteArray)(x:aU):lC cn rn x=.mk x.kind x.name (qW cn rn x.kind x.name x.n) x.d (E5 cn rn x.l):=by cases x;rw[lC];rfl
theorem xG(cn rn:List ByteArray)(x:aU):iV cn rn x=(sO cn rn x.kind x.name||Gv cn rn x.l):=by cases x;rw[iV];rfl
theorem xH(cn rn:List ByteArray):∀l,E5 cn rn l=l.map (lC cn rn)
 | []=>rfl
 |x::l=>by rw[E5,xH cn rn l];rfl
theorem nP(cn rn:List ByteArray):∀l,Gv cn rn l=l.any (iV cn rn)
 | []=>rfl
 |x::l=>by rw[Gv,nP cn rn l];rfl
theorem CO{nm:List ByteArray}{s:ByteArray}:∀{k j:Nat},gW nm s k=some j->j<k
 |k+1,j,h=>by
  unfold gW at h;split at h;·cases h;omega
  have:=CO h;omega
theorem PY(nm:List ByteArray)(s:ByteArray):xA nm s<=nm.length:=by
 unfold xA
 cases h:gW nm s nm.length with
 |none=>simp
 |some j=>have:=CO h;simp;omega
theorem CP(hc:cn.length<=100000)(hr:rn.length<=100000)(k:Int)(s:ByteArray){n:Int}(h:i64 n):i64 (qW cn rn k s n):=by
 have a:=PY cn s;have d:=PY rn s;unfold qW i64 at*
 split;·omega
 split<;>omega
theorem CQ{α:Type}(f:α->α){l:List α}{x:α}(h:l[k]?=some x):(((l.take k).map f++l.drop k).set k (f x))=(l.take (k+1)).map f++l.drop (k+1):=by have a:=(bj.1 h).1;rw[eo,h,eO];rw[gS _ _ oS];simp only[cC,cI,gd (cX a),ga,ja,fg,ix];have e:=cT a;rw[e,eQ,d_];rfl
theorem CS{α:Type}(f:α->α){l:List α}{x:α}(h:l[k]?=some x):((l.take k).map f++l.drop k)[k]?=some x:=by have a:=(bj.1 h).1;rw[cM oS];simp only[cC,cI,gd (cX a),ga];rw[fq,ed,h]
theorem xI{α:Type}(P:α->Bool){l:List α}{x:α}(h:l[k]?=some x):(l.take (k+1)).any P=((l.take k).any P||P x):=by rw[eo,h,List.any_append];simp
structure RE(w:World)(lb fb cb rb eb bc br:Nat)(cn rn:List ByteArray):Prop where
 f:aZ w fb (.func (.func 244) #[] #[.pointer (some ⟨lb,0,none⟩)])
 c:aZ w cb (.map (some bc))
 r:aZ w rb (.map (some br))
 e:aZ w eb (.func (.func 245) #[] #[.pointer (some ⟨fb,0,none⟩),.pointer (some ⟨cb,0,none⟩),.pointer (some ⟨rb,0,none⟩),.pointer (some ⟨eb,0,none⟩)])
 ic:dB w bc cn cn.length
 ir:dB w br rn rn.length
 nf:fb≠lb
 nc:cb≠lb
 nr:rb≠lb
 ne:eb≠lb
 nbc:bc≠lb
 nbr:br≠lb
 lc:cn.length<=100000
 lr:rn.length<=100000
theorem RE.of{w:World}{lb:Nat}(h:RE w lb fb cb rb eb bc br cn rn)(k:∀b,b<w.heap.size->b≠lb->w'.heap[b]?=w.heap[b]?):RE w' lb fb cb rb eb bc br cn rn where
 f:=h.f.block (k _ h.f.lt h.nf)
 c:=h.c.block (k _ h.c.lt h.nc)
 r:=h.r.block (k _ h.r.lt h.nr)
 e:=h.e.block (k _ h.e.lt h.ne)
 ic:=h.ic.block (k _ h.ic.lt h.nbc)
 ir:=h.ir.block (k _ h.ir.lt h.nbr)
 nf:=h.nf
 nc:=h.nc
 nr:=h.nr
 ne:=h.ne
 nbc:=h.nbc
 nbr:=h.nbr
 lc:=h.lc
 lr:=h.lr
theorem RE.kb{w:World}{lb:Nat}(h:RE w lb fb cb rb eb bc br cn rn)(k:KB lb w w'):RE w' lb fb cb rb eb bc br cn rn:=h.of fun b hb hne=>k.k.block b hb (by simpa using hne)
structure S6(w W:World)(lb y r:Nat)(vs zs:List Value):Prop where
 kb:KB lb w W
 ll:lb<w.heap.size
 gy:w.heap.size<=y
 gr:w.heap.size<=r
 ly:y<W.heap.size
 lr:r<W.heap.size
 ne:r≠y
 cy:∀i u,vs[i]?=some u->W.cell? ⟨y,i,none⟩=some u/\W.frozen? ⟨y,i,none⟩=false
 cr:∀i u,zs[i]?=some u->W.cell? ⟨r,i,none⟩=some u/\W.frozen? ⟨r,i,none⟩=false
section
variable {w W W':World}{lb y r:Nat}{vs zs:List Value}
theorem S6.of(h:S6 w W lb y r vs zs)(kb:KB lb w W')(hs:W.heap.size<=W'.heap.size)(ky:W'.heap[y]?=W.heap[y]?)(kr:W'.heap[r]?=W.heap[r]?):S6 w W' lb y r vs zs where
 kb:=kb
 ll:=h.ll
 gy:=h.gy
 gr:=h.gr
 ly:=cf h.ly hs
 lr:=cf h.lr hs
 ne:=h.ne
 cy i u hu:=by have:=h.cy i u hu;unfold World.cell? World.frozen? at*;simp only[ky];exact this
 cr i u hu:=by have:=h.cr i u hu;unfold World.cell? World.frozen? at*;simp only[kr];exact this
theorem S6.call(h:S6 w W lb y r vs zs)(k:KB lb W W'):S6 w W' lb y r vs zs:=h.of (h.kb.trans k) k.k.size (k.k.block _ h.ly (by have:=h.ll;have:=h.gy;simp;omega)) (k.k.block _ h.lr (by have:=h.ll;have:=h.gr;simp;omega))
theorem S6.go(h:S6 w W lb y r vs zs)(k:Below W W W'):S6 w W' lb y r vs zs:=h.of (h.kb.go k (by have:=h.ll;have:=h.kb.k.size;omega)) k.size (k.block _ h.ly) (k.block _ h.lr)
theorem S6.row(h:S6 w W lb y r vs zs){g:Nat}(k:Keeps [g] W W')(hb:Below lb W W')(hg:w.heap.size<=g)(ny:y≠g)(nr:r≠g):S6 w W' lb y r vs zs:=h.of ⟨⟨cD h.kb.k.size k.size,fun b hb' hm=>(k.block b (cf hb' h.kb.k.size) oS).trans (h.kb.k.block b hb' hm)⟩,h.kb.bl.trans hb⟩ k.size (k.block _ h.ly (by simpa using ny)) (k.block _ h.lr (by simpa using nr))
theorem S6.put(h:S6 w W lb y r vs zs)(hj:vs[j]?=some u0)(u:Value):S6 w (W.setCell ⟨y,j,none⟩ u) lb y r (vs.set j u) zs/\Keeps [y] W (W.setCell ⟨y,j,none⟩ u):=by
 have a:=(cF [y] W).setCell (p:=⟨y,j,none⟩) (.inl oO) u;have I:(W.setCell ⟨y,j,none⟩ u).cell? ⟨y,j,none⟩=some u:=cZ (h.cy j u0 hj).1;have z:∀i,i≠j->(W.setCell ⟨y,j,none⟩ u).cell? ⟨y,i,none⟩=W.cell? ⟨y,i,none⟩:=fun i s=>by simp[go_sem,s,fun e:j=i=>s e.symm]
 have f:∀i,(W.setCell ⟨y,j,none⟩ u).frozen? ⟨y,i,none⟩=W.frozen? ⟨y,i,none⟩:=fun i=>by simp[go_sem]
 have hb:Below lb W (W.setCell ⟨y,j,none⟩ u):=(bw lb W).setCell (p:=⟨y,j,none⟩) (by have:=h.ll;have:=h.gy;simp;omega) u;generalize W.setCell ⟨y,j,none⟩ u=W' at*
 refine⟨⟨⟨⟨cD h.kb.k.size a.size,fun b d x=>(a.block b (cf d h.kb.k.size) (by have:=h.gy;simp;omega)).trans (h.kb.k.block b d x)⟩,h.kb.bl.trans hb⟩,h.ll,h.gy,h.gr,cf h.ly a.size,cf h.lr a.size,h.ne,fun i v s=>?_,fun i v s=>?_⟩,a⟩
 ·have t:=(bj.1 hj).1;by_cases e:i=j;·subst e;rw[fm t]at s;cases s;exact⟨I,(f i).trans (h.cy i u0 hj).2⟩
  rw[fz (fun o=>e o.symm)]at s;exact⟨(z i e).trans (h.cy i v s).1,(f i).trans (h.cy i v s).2⟩
 have q:=a.block r h.lr (by have:=h.ne;simpa using this);have:=h.cr i v s;unfold World.cell? World.frozen? at*;simp only[q];exact this
end
theorem bD.spare{α:Type} [kJ α] {e:TypeId}{w:World}{M M':List Nat}{base:Nat}{v:Value}{n:Nat}{xs:List α}(h:bD α e w M base v n xs)(k:Keeps M' w w')(hs:∀q,q∈M'->q∈M)(hg:∀q,q∈M'->q<base):bD α e w' M base v n xs:=by obtain⟨cs,o,p⟩:=h.ex;refine⟨h.len,cs,qp o (fun q d s=>k.block q s (fun t=>by have:=(h.lt d).1;have:=hg q t;omega)),fun i x hx=>?_⟩;obtain⟨f,a,b⟩:=p i x hx;exact⟨f,iN a (k.mono (fun q d=>cL _ (hs q d))),b⟩
theorem KB.drew'(b:Nat)(w:World):KB b w w.drew:=⟨(cF _ w).drew,(bw b w).drew⟩
theorem aZ.kb{w:World}{g:Nat}{v:Value}(h:aZ w b v)(k:Keeps [g] w w')(hne:b≠g):aZ w' b v:=h.block (k.block b h.lt (by simpa using hne))
theorem jB{w:World}{g o:Nat}{v:Value}(h:w.cell? ⟨g,o,none⟩=some v/\w.frozen? ⟨g,o,none⟩=false)(hb:w'.heap[g]?=w.heap[g]?):w'.cell? ⟨g,o,none⟩=some v/\w'.frozen? ⟨g,o,none⟩=false:=by
 unfold World.cell? World.frozen? at*
 simp only[hb];exact h
structure L6(w W:World)(lb y r b0:Nat)(M:List Nat)(vs zs:List Value)(v:Value)(m:Nat)(l:List aU)(lo:Bool):Prop where
 s:S6 w W lb y r vs zs
 own:bD aU 66 W (y::r::M) b0 v m l
 lo:aZ W lb (.bool lo)
 by_:y<b0
 br_:r<b0
 bm:∀q,q∈M->q<b0
theorem Uu{a b:Int}{p q:Bool}(h:RowKit.Hid (a=b/\p=q)):∃N2 lo2,RowKit.Hid (a=N2/\p=lo2)/\b=N2/\q=lo2:=⟨b,q,h,rfl,rfl⟩
section
variable {w W w2 w3:World}{lb y r b0:Nat}{M:List Nat}{vs zs:List Value}{A:Option Addr}{m c:Nat}{l:List aU}{lo lo':Bool}{v:Value}
theorem S6.sl(h:S6 w W lb y r vs zs)(hq:Sl aU w M A m c l)(hM:lb∈M):Sl aU W (y::r::M) A m c l:=((hq.more h.gr).more h.gy).keep (h.kb.k.mono (fun q hq=>by rw[bE]at hq;subst hq;simp[hM]))
theorem fnd(hs:S6 w W lb y r vs zs)(k:KB lb W w2)(hv:aZ w2 lb (.bool lo))(hj:vs[j]?=some u0)(u:Value):
 S6 w (w2.setCell ⟨y,j,none⟩ u) lb y r (vs.set j u) zs/\aZ (w2.setCell ⟨y,j,none⟩ u) lb (.bool lo):=by
 obtain⟨d,a⟩:=(hs.call k).put hj u;exact⟨d,hv.kb a (by have:=hs.ll;have:=hs.gy;omega)⟩
theorem cln(hs:S6 w W lb y r vs zs)(hv:aZ W lb (.bool lo))(hM:b_ M w)(own:bD aU 66 w3 (y::r::M) W.heap.size v m l)(hb:Below W W w3)(hj:vs[j]?=some u0)(u:Value):
 ∃b0 vs',vs.set j u=vs'/\L6 w (w3.setCell ⟨y,j,none⟩ u) lb y r b0 M vs' zs v m l lo:=by
 obtain⟨h,d⟩:=(hs.go hb).put hj u;have f:lb<W.heap.size:=hv.lt;refine⟨W,_,rfl,h,own.spare d (fun q a=>by rw[bE]at a;subst a;simp) (fun q a=>by rw[bE]at a;subst a;exact hs.ly),(hv.block (hb.block _ f)).kb d (by have:=hs.ll;have:=hs.gy;omega),hs.ly,hs.lr,fun q a=>cf (hM q a) hs.kb.k.size⟩
theorem L6.fin{B:Option Addr}{d:Nat}(h:L6 w W lb y r b0 M vs zs (.slice B m d) m l lo)(hm:m<=100000)(us:List Value){W':World}(hW:fM W r 0 us=W'):Sl aU W' M B m d l/\KB lb w W'/\aZ W' lb (.bool lo):=by
 have f:Keeps [r] W W':=by rw[<-hW];exact qV (w:=W) us 0 W
 have t:=h.s.ll;have O:=h.s.gr;have o:Below lb W W':=by rw[<-hW];exact aak oE us _ (bw lb W)
 obtain⟨A,c,e,hs⟩:=h.own.sl oE (fun q a=>by
  rcases cB.1 a with rfl|a;·exact h.by_
  rcases cB.1 a with rfl|a;·exact h.br_
  exact h.bm q a)
 cases e;exact⟨(hs.keep (f.mono (fun q a=>by rw[bE]at a;subst a;simp))).less (fun q a=>by simp[a]),⟨⟨cD h.s.kb.k.size f.size,fun b i p=>(f.block b (cf i h.s.kb.k.size) oS).trans (h.s.kb.k.block b i p)⟩,h.s.kb.bl.trans o⟩,h.lo.kb f oE⟩
theorem CU(cn rn:List ByteArray){l:List aU}(h:l.length=k):(l.take k).map (lC cn rn)++l.drop k=E5 cn rn l:=by rw[bL oE,cA oE,ef,xH]
theorem L6.step{g cap k:Nat}{us:List Value}{x:aU}(h:L6 w W lb y r b0 M vs zs (.slice (some ⟨g,0,none⟩) m cap) m l lo)(kb:KB lb W w2)(PZ:lb∈M)(hv:aZ w2 lb (.bool lo'))(hk:k<m)(hr:kH w2 (g::y::r::M) x us){w':World}(hw':fM w2 g (k*5) us=w'):
 L6 w w' lb y r b0 M vs zs (.slice (some ⟨g,0,none⟩) m cap) m (l.set k x) lo':=by
 have t:=(h.own.lt (k:=g) rfl).1;have i:=h.own.spare kb.k (fun q a=>by rw[bE]at a;subst a;simp[PZ]) (fun q a=>by rw[bE]at a;subst a;exact h.bm _ PZ);obtain⟨o,d⟩:=i.afw hk hr hw';have p:lb<b0:=h.bm _ PZ;have f:Below lb w2 w':=by rw[<-hw'];exact aak oE us _ (bw lb w2)
 have:=h.by_;have:=h.br_;have:=h.s.gy;exact⟨(h.s.call kb).row d f oE oE oE,o,hv.kb d oE,h.by_,h.br_,h.bm⟩
end
def ExC(lb fb cb rb eb bc br:Nat)(cn rn:List ByteArray)(x:aU):Prop:=∀{M:List Nat}{A:Option Addr}{m c:Nat}{lo:Bool}{w:World},Sl aU w M A m c x.l->Ut x->nodes x<=100000->RE w lb fb cb rb eb bc br cn rn->aZ w lb (.bool lo)->lb∈M->b_ M w->Calls prog 245 #[.agg #[.int .i64 x.kind,.string x.name,.int .i64 x.n,.int .i64 x.d,.slice A m c],.pointer (some ⟨fb,0,none⟩),.pointer (some ⟨cb,0,none⟩),.pointer (some ⟨rb,0,none⟩),.pointer (some ⟨eb,0,none⟩)] w fun e w'=>∃B m' d',e=.returned (.agg #[.int .i64 x.kind,.string x.name,.int .i64 (qW cn rn x.kind x.name x.n),.int .i64 x.d,.slice B m' d'])/\Sl aU w' M B m' d' (E5 cn rn x.l)/\KB lb w w'/\aZ w' lb (.bool (lo||iV cn rn x))
theorem ExT{p:Prop}(h:p:=by
 refine wid ?_;have ZA:=gV x;have ae:=hs.len;have ZB:=jX x.l;have XD:m<=100000:=oE;have xJ:=NS hok;have Q:=xG cn rn x;obtain⟨l,ak⟩:=aC x.l;rw[ak]at hs ZA ae ZB xJ Q ih;obtain⟨kd,ab⟩:=aC x.kind;obtain⟨nm,ac⟩:=aC x.name;obtain⟨L,ar⟩:=aC x.n;obtain⟨xd,aq⟩:=aC x.d;obtain⟨LE,CV⟩:=aC (iV cn rn x);rw[ab,ac]at Q;rw[CV]at Q;rw[ac]at xJ;rw[ab,ac,ar,aq,ak,CV];have EX:=Hd hk;rw[ab]at hk;have HN:=h_ (show dh l<=100000 by omega) ae XD Q;have IH:=Hd ih;have Ko:=Hd xJ;clear ab ac ar aq CV Q ak ih hok hnd ZA ae ZB xJ XD;obtain⟨W1,aA,F1⟩:=dR (((Fr.nil w).a w [.int .i64 kd,.string nm,.int .i64 L,.int .i64 xd,.slice A m c] 66).a (w+1) [.int .i64 0,.string ⟨#[]⟩,.int .i64 0,.int .i64 0,.slice none 0 0] 66);have ag:=hlo.lt;have F:S6 w W1 lb w.heap.size (w.heap.size+1) [.int .i64 kd,.string nm,.int .i64 L,.int .i64 xd,.slice A m c] [.int .i64 0,.string ⟨#[]⟩,.int .i64 0,.int .i64 0,.slice none 0 0]:=⟨⟨a_ F1.bl _,F1.bl.mono (cX ag)⟩,ag,bh _,iH _,F1.mJ 0,F1.mJ 1,oE,fun i u hu=>F1.at_ _ _ oO i u hu,fun i u hu=>F1.at_ _ _ oO i u hu⟩;have V1:aZ W1 lb (.bool lo):=hlo.block (F1.bl.block lb ag);have R:=hre.kb F.kb;have rf:=R.f.1;have rc:=R.c.1;have rr:=R.r.1;obtain⟨c0,-⟩:=F.cy 0 _ rfl;obtain⟨c1,-⟩:=F.cy 1 _ rfl;obtain⟨c2,d2⟩:=F.cy 2 _ rfl;obtain⟨c4,d4⟩:=F.cy 4 _ rfl;have C:=Hd2 F V1;have O:=Hd2 hre R;have HM:=fB hs PZ hM;clear F V1 R F1 hre hlo hs hM PZ
 (first
   |subst hk
   |(obtain⟨k2,k5⟩:=hk;have ad:=Hd2 (show qW cn rn kd nm L=L by unfold qW;rw[if_neg k2,if_neg k5]) (show(lo||sO cn rn kd nm)=lo by unfold sO;rw[if_neg k2,if_neg k5];simp);have z:=C))
 refine ent func245 rfl ntmps245 ?_
 gi_wp2_with (first
  |(refine Cl 246 (vK (z.a.sl HM.a HM.b) HN.c) ?_;rintro e w3 ⟨v,rfl,own,aa⟩;obtain⟨B,d,rfl,-⟩:=own.sl (by have:=HN.c;omega) (fun q t=>by
     rcases cB.1 t with rfl|t;·exact z.a.ly
     rcases cB.1 t with rfl|t;·exact z.a.lr
     exact cf (HM.v q t) z.a.kb.k.size)
    obtain⟨b0,vs,aj,o⟩:=cln z.a z.u HM.v own aa (j:=4) rfl (.slice B m d);obtain⟨H,al,I,am,ao⟩:=Uu ad;rw[ao]at o;simp only[fl,eQ,am]at aj;have HL:=Hd o;have ZF:=Hd aj;obtain⟨-,e4⟩:=(z.a.go aa).cy 4 _ rfl;obtain⟨g4,-⟩:=(z.a.go aa).cy 4 _ rfl;clear o aj own aa am ao)
  |(have g:Hid (x.kind=2):=EX;clear g;refine Cl 244 (xE O.u.ic rfl Ko.a C.u) ?_;rintro e w2 ⟨rfl,D,v2⟩;have z:=Hd (fnd C.a D v2 (j:=2) rfl (.int .i64 ((xA cn nm:Nat):Int)));have ad:=Hd2 (show qW cn rn 2 nm L=((xA cn nm:Nat):Int) by simp[qW]) (show(lo||sO cn rn 2 nm)=(lo||xB cn nm) by simp[sO]);obtain⟨g2,e2⟩:=(C.a.call D).cy 2 _ rfl;obtain⟨g4,e4⟩:=(C.a.call D).cy 4 _ rfl;clear D v2)
  |(refine Cl 244 (xE O.u.ir rfl Ko.a C.u) ?_;rintro e w2 ⟨rfl,D,v2⟩;have z:=Hd (fnd C.a D v2 (j:=2) rfl (.int .i64 ((xA rn nm:Nat):Int)));have ad:=Hd2 (show qW cn rn 5 nm L=((xA rn nm:Nat):Int) by simp[qW]) (show(lo||sO cn rn 5 nm)=(lo||xB rn nm) by simp[sO]);obtain⟨g2,e2⟩:=(C.a.call D).cy 2 _ rfl;obtain⟨g4,e4⟩:=(C.a.call D).cy 4 _ rfl;clear D v2)
  |fail)
 have au:=Hd (show L6 w _ lb w.heap.size (w.heap.size+1) b0 M vs [.int .i64 0,.string ⟨#[]⟩,.int .i64 0,.int .i64 0,.slice none 0 0] (.slice B m d) m ((l.take 0).map (lC cn rn)++l.drop 0) (al||(l.take 0).any (iV cn rn)) by simpa using HL.out);gi_loopw[7,33] (fun _ i wr=>∃k:Nat,k<=m/\i=.int .i64 k/\Hid (L6 w wr lb w.heap.size (w.heap.size+1) b0 M vs [.int .i64 0,.string ⟨#[]⟩,.int .i64 0,.int .i64 0,.slice none 0 0] (.slice B m d) m ((l.take k).map (lC cn rn)++l.drop k) (al||(l.take k).any (iV cn rn)))) (fun _ i _=>m-(intOf i).toNat);case atStart=>exact⟨0,bO _,rfl,au⟩
 case round=>
  obtain⟨k,T,rfl,o⟩:=hrel;obtain⟨lk,af⟩:=aC (al||(l.take k).any (iV cn rn));rw[af]at o;have Ux:=Hd af;clear af;by_cases ah:k<m
  ·obtain⟨g,cap,hv⟩:=qA o.out.own oE;cases hv;obtain⟨y,U⟩:=dW l k (by rw[HN.b];exact ah);obtain⟨es,r1,V⟩:=o.out.own.get (CS (lC cn rn) U);obtain⟨B2,m2,d5,rfl,hi,ap⟩:=kH.sl r1;have an:b0<=g:=(o.out.own.lt (k:=g) rfl).1;have ax:lb<b0:=o.out.bm _ HM.b;have G:g≠lb:=oE;have ny:w.heap.size≠lb:=oE;have RW:=(O.a.kb o.out.s.kb);have v0:=aF (Mr:= [lb]) (by simpa using ny) (o.out.s.cy 4 (.slice (some ⟨g,0,none⟩) m d) (by rw[<-ZF.out];rfl)).1;have v1:=aF (Mr:= [lb]) (by simpa using RW.ne) RW.e.1;have x0:∀w',Keeps [lb] wr.drew w'->w'.cell? ⟨g,k*5,none⟩=some (.int .i64 y.kind):=aF (Mr:= [lb]) (by simpa using G) (V 0 _ rfl).1;have x1:∀w',Keeps [lb] wr.drew w'->w'.cell? ⟨g,k*5+1,none⟩=some (.string y.name):=aF (Mr:= [lb]) (by simpa using G) (V 1 _ rfl).1;have x2:∀w',Keeps [lb] wr.drew w'->w'.cell? ⟨g,k*5+2,none⟩=some (.int .i64 y.n):=aF (Mr:= [lb]) (by simpa using G) (V 2 _ rfl).1;have x3:∀w',Keeps [lb] wr.drew w'->w'.cell? ⟨g,k*5+3,none⟩=some (.int .i64 y.d):=aF (Mr:= [lb]) (by simpa using G) (V 3 _ rfl).1;have x4:∀w',Keeps [lb] wr.drew w'->w'.cell? ⟨g,k*5+4,none⟩=some (.slice B2 m2 d5):=aF (Mr:= [lb]) (by simpa using G) (V 4 _ rfl).1;have HY:=oK U hi ap (BA Ko.u (aR U)) (cD (fK (aR U)) HN.a);have HG:=fB G an ax;have av:=Hd RW;have P:=Hd V;clear U hi r1 V ap an RW;gi_wp2;refine aP [lb] 11 oF oF ?_;refine ay 0 ?_;refine ay 1 ?_;refine ay 2 ?_;refine ay 3 ?_;refine ay 4 ?_;refine ay 5 ?_;refine ay 6 ?_;refine ay 7 ?_;refine ay 8 ?_;refine eU 9 fun K hK=>?_;gi_wp2;refine Cl 245 (IH.out y (aR HY.a) (HY.c.keep (cF _ wr).drew) HY.d HY.x (av.out.of fun _ _ _=>rfl) (o.out.lo.block rfl) (by simp[HM.b]) (fun q t=>by
    rcases cB.1 t with rfl|t;·exact(o.out.own.lt rfl).2
    rcases cB.1 t with rfl|t;·exact o.out.s.ly
    rcases cB.1 t with rfl|t;·exact o.out.s.lr
    exact cf (HM.v q t) o.out.s.kb.k.size)) ?_
   rintro e w5 ⟨B5,m5,d6,rfl,s5,jD,v5⟩;have Uy:=(KB.drew' lb wr).trans jD;have ai:=o.out.step Uy HM.b v5 ah (us:= [.int .i64 y.kind,.string y.name,.int .i64 (qW cn rn y.kind y.name y.n),.int .i64 y.d,.slice B5 m5 d6]) (x:=lC cn rn y) (by rw[BD];exact kH.of ⟨HY.out.2.1.1,CP O.a.lc O.a.lr _ _ HY.out.2.1.2.1,HY.out.2.1.2.2⟩ s5) rfl;rw[CQ (lC cn rn) HY.a,<-Ux.out,lA,<-xI (iV cn rn) HY.a]at ai;have HF:=Hd ai;have J:=Uy.k.block g (o.out.own.lt (k:=g) rfl).2 (by simpa using G);obtain⟨N,f0⟩:=jB (P.out 0 _ rfl) J;obtain⟨X,f1⟩:=jB (P.out 1 _ rfl) J;obtain⟨Y,f2⟩:=jB (P.out 2 _ rfl) J;obtain⟨Z,f3⟩:=jB (P.out 3 _ rfl) J;obtain⟨z4,f4⟩:=jB (P.out 4 _ rfl) J;rw[show k*Rep.sz aU=k*5 from rfl]at N X Y Z z4 f0 f1 f2 f3 f4;rw[ed]at N f0;refine hK _ _ ⟨?_,?_⟩;clear hK K;·exact jD.k
   refine lit ?_;clear jD v5 Uy s5 ai J v0 v1 x0 x1 x2 x3 x4;have aB:=HN.c;refine ay 10 ?_;refine iq 1 ?_;refine jW fun K hK K' az=>?_;gi_wp2;refine dC _ ?_;simp only[cu];gi_wp2;exact⟨⟨k+1,oE,by go_num,HF⟩,by simp[intOf];omega⟩
  ·have aw:k=m:=oE;clear T ah;subst aw;have hv:=ZF.out;subst hv;have S:=o.out.s;have y0:=(S.cy 0 _ rfl).1;have y1:=(S.cy 1 _ rfl).1;have y2:=(S.cy 2 _ rfl).1;have y3:=(S.cy 3 _ rfl).1;have y4:=(S.cy 4 _ rfl).1;obtain⟨N,f0⟩:=S.cr 0 _ rfl;obtain⟨X,f1⟩:=S.cr 1 _ rfl;obtain⟨Y,f2⟩:=S.cr 2 _ rfl;obtain⟨Z,f3⟩:=S.cr 3 _ rfl;obtain⟨z4,f4⟩:=S.cr 4 _ rfl;clear S;gi_wp2
   (first
     |(have E:=o.out.fin HN.c [.int .i64 kd,.string nm,.int .i64 H,.int .i64 xd,.slice B k d] rfl;rw[CU cn rn HN.b,<-Ux.out,bL (by rw[HN.b];exact bh _),<-nP,<-I.u,lA,<-HN.w]at E;exact⟨rfl,.agg #[.int .i64 kd,.string nm,.int .i64 H,.int .i64 xd,.slice B k d],by simp[results,go_sem,N,X,Y,Z,z4],B,k,d,by rw[I.a],E⟩)
     |(have g:Hid (x.kind=2):=EX;have E:=o.out.fin HN.c [.int .i64 2,.string nm,.int .i64 H,.int .i64 xd,.slice B k d] rfl;rw[CU cn rn HN.b,<-Ux.out,bL (by rw[HN.b];exact bh _),<-nP,<-I.u,lA,<-HN.w]at E;exact⟨rfl,.agg #[.int .i64 2,.string nm,.int .i64 H,.int .i64 xd,.slice B k d],by simp[results,go_sem,N,X,Y,Z,z4],B,k,d,by rw[I.a],E⟩)
     |(have E:=o.out.fin HN.c [.int .i64 5,.string nm,.int .i64 H,.int .i64 xd,.slice B k d] rfl;rw[CU cn rn HN.b,<-Ux.out,bL (by rw[HN.b];exact bh _),<-nP,<-I.u,lA,<-HN.w]at E;exact⟨rfl,.agg #[.int .i64 5,.string nm,.int .i64 H,.int .i64 xd,.slice B k d],by simp[results,go_sem,N,X,Y,Z,z4],B,k,d,by rw[I.a],E⟩))):p:=h
theorem Uw{lb:Nat}(x:aU)(ih:∀y,y∈x.l->ExC lb fb cb rb eb bc br cn rn y)(hk:x.kind=2):ExC lb fb cb rb eb bc br cn rn x:=by intro M A m c lo w hs hok hnd hre hlo PZ hM;exact ExT
theorem Q_{lb:Nat}(x:aU)(ih:∀y,y∈x.l->ExC lb fb cb rb eb bc br cn rn y)(hk:x.kind=5):ExC lb fb cb rb eb bc br cn rn x:=by intro M A m c lo w hs hok hnd hre hlo PZ hM;exact ExT
theorem Uz{lb:Nat}(x:aU)(ih:∀y,y∈x.l->ExC lb fb cb rb eb bc br cn rn y)(hk:¬x.kind=2/\¬x.kind=5):ExC lb fb cb rb eb bc br cn rn x:=by intro M A m c lo w hs hok hnd hre hlo PZ hM;exact ExT
theorem UA{lb:Nat}(x:aU):ExC lb fb cb rb eb bc br cn rn x:=by
 induction x using iY with
 |_ x ih=>
  by_cases d:x.kind=2;·exact Uw x ih d
  ·by_cases K:x.kind=5;·exact Q_ x ih K
   exact Uz x ih ⟨d,K⟩
