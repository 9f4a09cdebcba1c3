/- Lemmas -/
import Derived.Test.YtfdmnogfflcllaaGreatDoorM14
set_option linter.all false
set_option maxRecDepth 100000
set_option maxHeartbeats 0
namespace Go.Proofs.YtfdmnogfflcllaaGreatDoor
open Go.Proofs.Tryz Go.RowKit Go.Shelf
theorem akG{p:Prop}(h:p:=by gi_wp2;go_ret;exact⟨_,rfl,by
  have V:l= []:=by
   rcases HZ.out.at_ with g|⟨b,o,h,-⟩;·exact g
   cases h
  have hn:=HZ.out.len;subst V;cases hn;exact bD.nil _ _ _,bL _ _⟩):p:=h
theorem yJ{p:Prop}(h:p:=by
 cases A with
 |none=>exact akG
 |some a=>
  gi_wp2_with (first
   |(gi_at_builtin;refine c_ rfl fun K i=>?_;refine aI _ _ _ rfl rfl rfl s.out (i _ _ ?_);clear i K)
   |fail)
  go_ret;exact⟨_,rfl,f.a,f.u⟩):p:=h
variable {b k j fb cb rb eb bc br:Nat}{us:List Value}{w':World}{cn rn:List ByteArray}{u0:Value}
instance:kJ ByteArray:=⟨by rintro w M x cs h u hu;have h:cs=_:=h;subst h;simp at hu;subst hu;rfl⟩
instance:kJ aU:=⟨by
 intro w M x cs h u hu;obtain⟨A,m,c,rfl,-,-⟩:=kH.sl h;simp at hu;rcases hu with rfl|rfl|rfl|rfl|rfl<;>rfl⟩
def iU(e:TypeId)(sz:Nat):Prop:=∃i z,prog.info? e=some i/\i.zero=some z/\i.size=sz/\z.cells.size=sz/\i.bytes<=200
theorem Q7:(prog.info? 66).map (fun i=>(i.zero,i.size,i.bytes))=some (some (.agg #[.int .i64 0,.string ⟨#[]⟩,.int .i64 0,.int .i64 0,.slice none 0 0]),5,64):=pk
theorem Ur:(prog.info? 113).map (fun i=>(i.zero,i.size,i.bytes))=some (some (.agg #[.int .i64 0,.string ⟨#[]⟩,.int .i64 0]),3,32):=pk
theorem Gt:(prog.info? 156).map (fun i=>(i.zero,i.size,i.bytes))=some (some (.agg #[.string ⟨#[]⟩,.int .i64 0,.int .i64 0]),3,32):=pk
theorem Us:(prog.info? 142).map (fun i=>(i.zero,i.size,i.bytes))=some (some (.agg #[.string ⟨#[]⟩,.slice none 0 0]),2,40):=pk
theorem NR:(prog.info? 68).map (fun i=>(i.zero,i.size,i.bytes))=some (some (.agg #[.string ⟨#[]⟩,.int .i64 0,.int .i64 0,.int .i64 0,false,false,.int .i64 0,.string ⟨#[]⟩,.int .i64 0,.int .i64 0,.slice none 0 0,.string ⟨#[]⟩,.int .i64 0]),13,136):=pk
theorem iU.mk'{e:TypeId}{sz:Nat}{z:Value}(h:(prog.info? e).map (fun i=>(i.zero,i.size,i.bytes))=some (some z,sz,b))(hz:z.cells.size=sz)(hb:b<=200):iU e sz:=by obtain⟨i,a,d,s,F⟩:=lB h;exact⟨i,z,a,d,s,hz,pj⟩
theorem uz{α:Type} [kJ α] {t e:TypeId}(ht:prog.underlying t=some (.slice e))(hi:iU e (Rep.sz α)){w:World}{M:List Nat}{A:Option Addr}{n c:Nat}{l:List α}(h:Sl α w M A n c l)(hn:n<=100000):
 ∃v w',(Builtin.append_ #[t,t] t #[.slice (some ⟨w,0,none⟩) 0 0,.slice A n c]).run prog (w.alloc (.cells #[] e))=.ok v w'/\bD α e w' M w.heap.size v n l/\Below w w w':=by
 obtain⟨i,z,f,o,p,q,s⟩:=hi;have u:=bD.lit (α:=α) (e:=e) w M (base:=w.heap.size) pD;have d:=(h.more (b:=w) pD).keep (w':=w.alloc (.cells #[] e)) (bq ((bL w w).alloc pD _) _);obtain⟨C,W',x,T,B,-⟩:=u.uy (ty:=t) (t:=t) po ht f o p q d (by have:=fS (show 0+n<=100000 by omega) s;omega) pj;rw[dC,df]at T;exact⟨C,W',x,T,(((bL w w).alloc pD _).grown B po (fun k a=>by cases a;exact bj _))⟩
theorem CJ:iU 66 (Rep.sz aU):=iU.mk' Q7 rfl pj
theorem vK{M:List Nat}{A:Option Addr}{n c:Nat}{l:List aU}{w:World}(hx:Sl aU w M A n c l)(hn:n<=100000):
 Calls prog 246 #[.slice A n c] w fun e w'=>∃v,e=.returned v/\bD aU 66 w' M w.heap.size v n l/\Below w w w':=by
 refine wid ?_;obtain⟨v,w2,p,T,q⟩:=uz underlying64 CJ hx hn;have s:=Hd p;have f:=Hd2 T q;have HZ:=Hd hx;clear p T q hx hn;have t:∀(w:World) (a:Option Addr) (n c n' d:Nat),(binOp .eql 64 (.slice a n c) (.slice none n' d)).run prog w=.ok a.isNone w:=fun w a n c n' d=>lh w _ _ a n c n' d underlying64;refine ent func246 ntmps246 ?_;exact yJ
theorem Gu:iU 142 (Rep.sz dA):=iU.mk' Us rfl pj
theorem Q8{M:List Nat}{A:Option Addr}{n c:Nat}{l:List dA}{w:World}(hx:Sl dA w M A n c l)(hn:n<=100000):
 Calls prog 247 #[.slice A n c] w fun e w'=>∃v,e=.returned v/\bD dA 142 w' M w.heap.size v n l/\Below w w w':=by
 refine wid ?_;obtain⟨v,w2,p,T,q⟩:=uz underlying24 Gu hx hn;have s:=Hd p;have f:=Hd2 T q;have HZ:=Hd hx;clear p T q hx hn;have t:∀(w:World) (a:Option Addr) (n c n' d:Nat),(binOp .eql 24 (.slice a n c) (.slice none n' d)).run prog w=.ok a.isNone w:=fun w a n c n' d=>lh w _ _ a n c n' d underlying24;refine ent func247 ntmps247 ?_;exact yJ
theorem sN:iU 68 (Rep.sz aJ):=iU.mk' NR rfl pj
theorem JZ{M:List Nat}{A:Option Addr}{n c:Nat}{l:List aJ}{w:World}(hx:Sl aJ w M A n c l)(hn:n<=100000):
 Calls prog 248 #[.slice A n c] w fun e w'=>∃v,e=.returned v/\bD aJ 68 w' M w.heap.size v n l/\Below w w w':=by
 refine wid ?_;obtain⟨v,w2,p,T,q⟩:=uz underlying25 sN hx hn;have s:=Hd p;have f:=Hd2 T q;have HZ:=Hd hx;clear p T q hx hn;have t:∀(w:World) (a:Option Addr) (n c n' d:Nat),(binOp .eql 25 (.slice a n c) (.slice none n' d)).run prog w=.ok a.isNone w:=fun w a n c n' d=>lh w _ _ a n c n' d underlying25;refine ent func248 ntmps248 ?_;exact yJ
theorem aaM:iU 113 (Rep.sz bK):=iU.mk' Ur rfl pj
theorem Q9{M:List Nat}{A:Option Addr}{n c:Nat}{l:List bK}{w:World}(hx:Sl bK w M A n c l)(hn:n<=100000):
 Calls prog 249 #[.slice A n c] w fun e w'=>∃v,e=.returned v/\bD bK 113 w' M w.heap.size v n l/\Below w w w':=by
 refine wid ?_;obtain⟨v,w2,p,T,q⟩:=uz underlying110 aaM hx hn;have s:=Hd p;have f:=Hd2 T q;have HZ:=Hd hx;clear p T q hx hn;have t:∀(w:World) (a:Option Addr) (n c n' d:Nat),(binOp .eql 110 (.slice a n c) (.slice none n' d)).run prog w=.ok a.isNone w:=fun w a n c n' d=>lh w _ _ a n c n' d underlying110;refine ent func249 ntmps249 ?_;exact yJ
theorem XT{w:World}{base:Nat}{e:TypeId}{size g n cap:Nat}{cs:List Value}(h:w.ownsRow base e size (.slice (some ⟨g,0,none⟩) n cap) n cs)(k:Nat)(u:Value)(hk:k<n*size):
 (w.setCell ⟨g,k,none⟩ u).ownsRow base e size (.slice (some ⟨g,0,none⟩) n cap) n (cs.set k u):=by
 refine⟨by rw[fR];exact h.1,?_⟩;rcases h.2 with⟨a,_⟩|⟨t,s,d,a,hb,i,o,f,p,q⟩;·cases a
 ·cases a;refine .inr ⟨g,cap,d.setIfInBounds k u,rfl,hb,?_,o,f,by simpa using p,?_⟩;·simp only[World.setCell,Array.getElem?_modify,mf];rw[i];simp only[gw,Option.isSome_none,gm,oB]
  rw[<-q,Array.toList_setIfInBounds,List.take_set]
def fM(w:World)(b:Nat):Nat->List Value->World
 |_, []=>w
 |o,u::us=>fM (w.setCell ⟨b,o,none⟩ u) b (o+1) us
theorem qV{w:World}{b:Nat}:∀(us:List Value) (o:Nat) (w:World),Keeps [b] w (fM w b o us)
 | [],_,w=>cG _ w
 |u::us,o,w=>((cG [b] w).setCell (p:=⟨b,o,none⟩) (.inl po) u).trans (qV (w:=w) us (o+1) _)
theorem aau{b s:Nat}(hs:s<=b):∀(us:List Value) (o:Nat) {w0 w:World},Below s w0 w->Below s w0 (fM w b o us)
 | [],_,_,_,h=>h
 |u::us,o,_,_,h=>aau hs us (o+1) (h.setCell (p:=⟨b,o,none⟩) hs u)
theorem J4{base:Nat}{e:TypeId}{size g n cap:Nat}:∀(us:List Value) (o:Nat) {w:World}{cs:List Value},w.ownsRow base e size (.slice (some ⟨g,0,none⟩) n cap) n cs->o+us.length<=n*size->
 ∃cs',(fM w g o us).ownsRow base e size (.slice (some ⟨g,0,none⟩) n cap) n cs'/\∀i,cs'[i]?=if o<=i/\i<o+us.length then us[i-o]? else cs[i]?
 | [],o,w,cs,h,_=>⟨cs,h,fun i=>by rw[if_neg po]⟩
 |u::us,o,w,cs,h,ho=>by
  simp only[eh]at ho;obtain⟨cs',h1,h2⟩:=J4 us (o+1) (XT h o u pj) pj;refine⟨cs',h1,fun i=>?_⟩;have hl:=h.1;rw[h2 i];simp only[eh];by_cases e1:i=o;·subst e1;rw[if_neg pj,if_pos pj,gl pj];simp
  by_cases e2:o+1<=i/\i<o+1+us.length;·rw[if_pos e2,if_pos pj,show i-o=(i-(o+1))+1 by omega,fI]
  rw[if_neg e2,if_neg pj,gj pj]
section
variable {α:Type} [kJ α] {e:TypeId}{w:World}{M:List Nat}{base g n cap:Nat}{xs:List α}
theorem qA{v:Value}(h:bD α e w M base v n xs)(hn:0<n):∃g cap,v=.slice (some ⟨g,0,none⟩) n cap:=by
 obtain⟨cs,a,-⟩:=h.ex;rcases a.2 with⟨rfl,rfl⟩|⟨g,cap,d,rfl,-⟩;·omega
 exact⟨g,cap,rfl⟩
theorem bD.get(h:bD α e w M base (.slice (some ⟨g,0,none⟩) n cap) n xs){x:α}(hk:xs[k]?=some x):∃es,Rep.rd w (g::M) x es/\(∀j u,es[j]?=some u->w.cell? ⟨g,k*Rep.sz α+j,none⟩=some u/\w.frozen? ⟨g,k*Rep.sz α+j,none⟩=false):=by
 obtain⟨cs,d,i⟩:=h.ex;obtain⟨es,q,T⟩:=i k x hk;refine⟨es,q,fun j u p=>?_⟩;rcases d.2 with⟨a,_⟩|⟨B,t,z,a,hb,f,E,C,F,o⟩;·cases a
 cases a;have s:=T j u p;have D:=(bu.1 s).1;have:=d.1;rw[<-o,eQ pj,jj]at s;exact⟨by simp[World.cell?,f,s],by simp[World.frozen?,f]⟩
theorem bD.afN(h:bD α e w M base (.slice (some ⟨g,0,none⟩) n cap) n xs){x0 x:α}(hk:xs[k]?=some x0)(hj:j+us.length<=Rep.sz α)
 (hr:∀es,Rep.rd w (g::M) x0 es->Rep.rd w (g::M) x (es.take j++us++es.drop (j+us.length))) (hw':fM w g (k*Rep.sz α+j) us=w'):
 bD α e w' M base (.slice (some ⟨g,0,none⟩) n cap) n (xs.set k x)/\Keeps [g] w w':=by
 subst hw';have t:=qV (w:=w) (b:=g) us (k*Rep.sz α+j) w;obtain⟨cs,C,f⟩:=h.ex;have s:k<n:=by rw[<-h.len];exact(bu.1 hk).1
 have E:(k+1)*Rep.sz α<=n*Rep.sz α:=dy _ s;rw[fY,fh]at E;obtain⟨B,G,T⟩:=J4 us (k*Rep.sz α+j) C pj;have z:Keeps (g::M) w (fM w g (k*Rep.sz α+j) us):=t.mono (fun x hx=>by rw[bz]at hx;subst hx;exact cw);refine⟨⟨by rw[fR];exact h.len,B,G,fun i y d=>?_⟩,t⟩;by_cases o:i=k
 ·subst o;obtain⟨es,a,b⟩:=f i x0 hk;rw[gl (by rw[h.len];exact s)]at d;cases d;have D:=oO a;refine⟨_,jf (hr es a) z,fun q u p=>?_⟩;rw[T];by_cases F:q<j;·rw[if_neg pj];rw[dz,dk px,eQ F]at p;exact b q u p
  by_cases K:q<j+us.length
  ·rw[if_pos pj,show i*Rep.sz α+q-(i*Rep.sz α+j)=q-j by omega];rw[dz,cQ px,dk px]at p
   rwa [cI,gC pj]at p
  rw[if_neg pj];rw[cQ px,fy]at p;simp only[cJ,cI]at p;rw[show j+us.length+(q-(min j es.length+us.length))=q by omega]at p;exact b q u p
 ·rw[gj (fun e=>o e.symm)]at d;obtain⟨es,a,b⟩:=f i y d;have D:=oO a;refine⟨es,jf a z,fun q u p=>?_⟩;have J:=(bu.1 p).1;rw[T,if_neg,b q u p];rcases lP i k with I|H;·have:=dy (Rep.sz α) (show i+1<=k by omega);rw[fY,fh]at this;omega
  have:=dy (Rep.sz α) (show k+1<=i by omega);rw[fY,fh]at this;omega
theorem bD.ags(h:bD α e w M base (.slice (some ⟨g,0,none⟩) n cap) n xs){x:α}(hk:k<n)(hr:Rep.rd w (g::M) x us)(hw':fM w g (k*Rep.sz α) us=w'):
 bD α e w' M base (.slice (some ⟨g,0,none⟩) n cap) n (xs.set k x)/\Keeps [g] w w':=by
 have i:=oO hr;obtain⟨o,d⟩:=dW xs k (by rw[h.len];exact hk);refine h.afN (j:=0) d pj (fun f a=>?_) hw';have:=oO a;rw[fT,df,cB pj,dx];exact hr
end
def qW(cn rn:List ByteArray)(k:Int)(s:ByteArray)(n:Int):Int:=if k=2 then(xA cn s:Nat)else if k=5 then(xA rn s:Nat)else n
def sO(cn rn:List ByteArray)(k:Int)(s:ByteArray):Bool:=if k=2 then xB cn s else if k=5 then xB rn s else false
mutual
def lC(cn rn:List ByteArray):aU->aU
 | .mk k s n d l=>.mk k s (qW cn rn k s n) d (E5 cn rn l)
def E5(cn rn:List ByteArray):List aU->List aU
 | []=> []
 |x::l=>lC cn rn x::E5 cn rn l
end
mutual
def iV(cn rn:List ByteArray):aU->Bool
 | .mk k s _ _ l=>sO cn rn k s||Gv cn rn l
def Gv(cn rn:List ByteArray):List aU->Bool
 | []=>false
 |x::l=>iV cn rn x||Gv cn rn l
end
mutual
def Ut:aU->Prop
 | .mk _ s _ _ l=>s.size<=maxLen/\XU l
def XU:List aU->Prop
 | []=>True
 |x::l=>Ut x/\XU l
end
theorem NS{x:aU}(h:Ut x):x.name.size<=maxLen/\XU x.l:=by cases x;rw[Ut]at h;exact h
theorem BA{y:aU}:∀{l:List aU},XU l->y∈l->Ut y
 |x::l,h,hy=>by
  rw[XU]at h;rcases cD.1 hy with rfl|hy;·exact h.1
  exact BA h.2 hy
theorem BD(cn rn:List ByteArray)(x:aU):lC cn rn x=.mk x.kind x.name (qW cn rn x.kind x.name x.n) x.d (E5 cn rn x.l):=by cases x;rw[lC];rfl
theorem xG(cn rn:List ByteArray)(x:aU):iV cn rn x=(sO cn rn x.kind x.name||Gv cn rn x.l):=by cases x;rw[iV];rfl
theorem xH(cn rn:List ByteArray):∀l,E5 cn rn l=l.map (lC cn rn)
 | []=>rfl
 |x::l=>by rw[E5,xH cn rn l];rfl
theorem nP(cn rn:List ByteArray):∀l,Gv cn rn l=l.any (iV cn rn)
 | []=>rfl
 |x::l=>by rw[Gv,nP cn rn l];rfl
theorem CO{nm:List ByteArray}{s:ByteArray}:∀{k j:Nat},gW nm s k=some j->j<k
 |k+1,j,h=>by
  unfold gW at h;split at h;·cases h;omega
  have:=CO h;omega
theorem PY(nm:List ByteArray)(s:ByteArray):xA nm s<=nm.length:=by
 unfold xA
 cases h:gW nm s nm.length with
 |none=>simp
 |some j=>have:=CO h;simp;omega
theorem CP(hc:cn.length<=100000)(hr:rn.length<=100000)(k:Int)(s:ByteArray){n:Int}(h:i64 n):i64 (qW cn rn k s n):=by
 have a:=PY cn s;have d:=PY rn s;unfold qW i64 at*
 split;·omega
 split<;>omega
theorem CQ{α:Type}(f:α->α){l:List α}{x:α}(h:l[k]?=some x):(((l.take k).map f++l.drop k).set k (f x))=(l.take (k+1)).map f++l.drop (k+1):=by have a:=(bu.1 h).1;rw[dm,h,ed];rw[il _ _ px];simp only[ck,cI,gC (cY a),gA,iA,eV,ia];have e:=cL a;rw[e,eM,dz];rfl
theorem CS{α:Type}(f:α->α){l:List α}{x:α}(h:l[k]?=some x):((l.take k).map f++l.drop k)[k]?=some x:=by have a:=(bu.1 h).1;rw[cQ px];simp only[ck,cI,gC (cY a),gA];rw[fy,eB,h]
theorem xI{α:Type}(P:α->Bool){l:List α}{x:α}(h:l[k]?=some x):(l.take (k+1)).any P=((l.take k).any P||P x):=by rw[dm,h,oV];simp
structure RE(w:World)(lb fb cb rb eb bc br:Nat)(cn rn:List ByteArray):Prop where
 f:aZ w fb (.func (.func 244) #[] #[.pointer (some ⟨lb,0,none⟩)])
 c:aZ w cb (.map (some bc))
 r:aZ w rb (.map (some br))
 e:aZ w eb (.func (.func 245) #[] #[.pointer (some ⟨fb,0,none⟩),.pointer (some ⟨cb,0,none⟩),.pointer (some ⟨rb,0,none⟩),.pointer (some ⟨eb,0,none⟩)])
 ic:dB w bc cn cn.length
 ir:dB w br rn rn.length
 nf:fb≠lb
 nc:cb≠lb
 nr:rb≠lb
 ne:eb≠lb
 nbc:bc≠lb
 nbr:br≠lb
 lc:cn.length<=100000
 lr:rn.length<=100000
theorem RE.of{w:World}{lb:Nat}(h:RE w lb fb cb rb eb bc br cn rn)(k:∀b,b<w.heap.size->b≠lb->w'.heap[b]?=w.heap[b]?):RE w' lb fb cb rb eb bc br cn rn where
 f:=h.f.block (k _ h.f.lt h.nf)
 c:=h.c.block (k _ h.c.lt h.nc)
 r:=h.r.block (k _ h.r.lt h.nr)
 e:=h.e.block (k _ h.e.lt h.ne)
 ic:=h.ic.block (k _ h.ic.lt h.nbc)
 ir:=h.ir.block (k _ h.ir.lt h.nbr)
 nf:=h.nf
 nc:=h.nc
 nr:=h.nr
 ne:=h.ne
 nbc:=h.nbc
 nbr:=h.nbr
 lc:=h.lc
 lr:=h.lr
theorem RE.kb{w:World}{lb:Nat}(h:RE w lb fb cb rb eb bc br cn rn)(k:KB lb w w'):RE w' lb fb cb rb eb bc br cn rn:=h.of fun b hb hne=>k.k.block b hb (by simpa using hne)
structure S6(w W:World)(lb y r:Nat)(vs zs:List Value):Prop where
 kb:KB lb w W
 ll:lb<w.heap.size
 gy:w.heap.size<=y
 gr:w.heap.size<=r
 ly:y<W.heap.size
 lr:r<W.heap.size
 ne:r≠y
 cy:∀i u,vs[i]?=some u->W.cell? ⟨y,i,none⟩=some u/\W.frozen? ⟨y,i,none⟩=false
 cr:∀i u,zs[i]?=some u->W.cell? ⟨r,i,none⟩=some u/\W.frozen? ⟨r,i,none⟩=false
section
variable {w W W':World}{lb y r:Nat}{vs zs:List Value}
theorem S6.of(h:S6 w W lb y r vs zs)(kb:KB lb w W')(hs:W.heap.size<=W'.heap.size)(ky:W'.heap[y]?=W.heap[y]?)(kr:W'.heap[r]?=W.heap[r]?):S6 w W' lb y r vs zs where
 kb:=kb
 ll:=h.ll
 gy:=h.gy
 gr:=h.gr
 ly:=bX h.ly hs
 lr:=bX h.lr hs
 ne:=h.ne
 cy i u hu:=by have:=h.cy i u hu;unfold World.cell? World.frozen? at*;simp only[ky];exact this
 cr i u hu:=by have:=h.cr i u hu;unfold World.cell? World.frozen? at*;simp only[kr];exact this
theorem S6.call(h:S6 w W lb y r vs zs)(k:KB lb W W'):S6 w W' lb y r vs zs:=h.of (h.kb.trans k) k.k.size (k.k.block _ h.ly (by have:=h.ll;have:=h.gy;simp;omega)) (k.k.block _ h.lr (by have:=h.ll;have:=h.gr;simp;omega))
theorem S6.go(h:S6 w W lb y r vs zs)(k:Below W W W'):S6 w W' lb y r vs zs:=h.of (h.kb.go k (by have:=h.ll;have:=h.kb.k.size;omega)) k.size (k.block _ h.ly) (k.block _ h.lr)
theorem S6.row(h:S6 w W lb y r vs zs){g:Nat}(k:Keeps [g] W W')(hb:Below lb W W')(hg:w.heap.size<=g)(ny:y≠g)(nr:r≠g):S6 w W' lb y r vs zs:=h.of ⟨⟨cF h.kb.k.size k.size,fun b hb' hm=>(k.block b (bX hb' h.kb.k.size) px).trans (h.kb.k.block b hb' hm)⟩,h.kb.bl.trans hb⟩ k.size (k.block _ h.ly (by simpa using ny)) (k.block _ h.lr (by simpa using nr))
theorem S6.put(h:S6 w W lb y r vs zs)(hj:vs[j]?=some u0)(u:Value):S6 w (W.setCell ⟨y,j,none⟩ u) lb y r (vs.set j u) zs/\Keeps [y] W (W.setCell ⟨y,j,none⟩ u):=by
 have d:=(cG [y] W).setCell (p:=⟨y,j,none⟩) (.inl po) u;have K:(W.setCell ⟨y,j,none⟩ u).cell? ⟨y,j,none⟩=some u:=cZ (h.cy j u0 hj).1;have z:∀i,i≠j->(W.setCell ⟨y,j,none⟩ u).cell? ⟨y,i,none⟩=W.cell? ⟨y,i,none⟩:=fun i a=>by simp[go_sem,a,fun e:j=i=>a e.symm]
 have o:∀i,(W.setCell ⟨y,j,none⟩ u).frozen? ⟨y,i,none⟩=W.frozen? ⟨y,i,none⟩:=fun i=>by simp[go_sem]
 have hb:Below lb W (W.setCell ⟨y,j,none⟩ u):=(bL lb W).setCell (p:=⟨y,j,none⟩) (by have:=h.ll;have:=h.gy;simp;omega) u;generalize W.setCell ⟨y,j,none⟩ u=W' at*
 refine⟨⟨⟨⟨cF h.kb.k.size d.size,fun b f x=>(d.block b (bX f h.kb.k.size) (by have:=h.gy;simp;omega)).trans (h.kb.k.block b f x)⟩,h.kb.bl.trans hb⟩,h.ll,h.gy,h.gr,bX h.ly d.size,bX h.lr d.size,h.ne,fun i v a=>?_,fun i v a=>?_⟩,d⟩
 ·have t:=(bu.1 hj).1;by_cases e:i=j;·subst e;rw[gl t]at a;cases a;exact⟨K,(o i).trans (h.cy i u0 hj).2⟩
  rw[gj (fun q=>e q.symm)]at a;exact⟨(z i e).trans (h.cy i v a).1,(o i).trans (h.cy i v a).2⟩
 have s:=d.block r h.lr (by have:=h.ne;simpa using this);have:=h.cr i v a;unfold World.cell? World.frozen? at*;simp only[s];exact this
end
theorem bD.spare{α:Type} [kJ α] {e:TypeId}{w:World}{M M':List Nat}{base:Nat}{v:Value}{n:Nat}{xs:List α}(h:bD α e w M base v n xs)(k:Keeps M' w w')(hs:∀q,q∈M'->q∈M)(hg:∀q,q∈M'->q<base):bD α e w' M base v n xs:=by obtain⟨cs,o,p⟩:=h.ex;refine⟨h.len,cs,qp o (fun q d s=>k.block q s (fun t=>by have:=(h.lt d).1;have:=hg q t;omega)),fun i x hx=>?_⟩;obtain⟨f,a,b⟩:=p i x hx;exact⟨f,jf a (k.mono (fun q d=>cP _ (hs q d))),b⟩
theorem KB.drew'(b:Nat)(w:World):KB b w w.drew:=⟨(cG _ w).drew,(bL b w).drew⟩
theorem aZ.kb{w:World}{g:Nat}{v:Value}(h:aZ w b v)(k:Keeps [g] w w')(hne:b≠g):aZ w' b v:=h.block (k.block b h.lt (by simpa using hne))
theorem jB{w:World}{g o:Nat}{v:Value}(h:w.cell? ⟨g,o,none⟩=some v/\w.frozen? ⟨g,o,none⟩=false)(hb:w'.heap[g]?=w.heap[g]?):w'.cell? ⟨g,o,none⟩=some v/\w'.frozen? ⟨g,o,none⟩=false:=by
 unfold World.cell? World.frozen? at*
 simp only[hb];exact h
structure L6(w W:World)(lb y r b0:Nat)(M:List Nat)(vs zs:List Value)(v:Value)(m:Nat)(l:List aU)(lo:Bool):Prop where
 s:S6 w W lb y r vs zs
 own:bD aU 66 W (y::r::M) b0 v m l
 lo:aZ W lb lo
 by_:y<b0
 br_:r<b0
 bm:∀q,q∈M->q<b0
theorem Uu{a b:Int}{p q:Bool}(h:RowKit.Hid (a=b/\p=q)):∃N2 lo2,RowKit.Hid (a=N2/\p=lo2)/\b=N2/\q=lo2:=⟨b,q,h,rfl,rfl⟩
section
variable {w W w2 w3:World}{lb y r b0:Nat}{M:List Nat}{vs zs:List Value}{A:Option Addr}{m c:Nat}{l:List aU}{lo lo':Bool}{v:Value}
theorem S6.sl(h:S6 w W lb y r vs zs)(hq:Sl aU w M A m c l)(hM:lb∈M):Sl aU W (y::r::M) A m c l:=((hq.more h.gr).more h.gy).keep (h.kb.k.mono (fun q hq=>by rw[bz]at hq;subst hq;simp[hM]))
theorem fnd(hs:S6 w W lb y r vs zs)(k:KB lb W w2)(hv:aZ w2 lb lo)(hj:vs[j]?=some u0)(u:Value):
 S6 w (w2.setCell ⟨y,j,none⟩ u) lb y r (vs.set j u) zs/\aZ (w2.setCell ⟨y,j,none⟩ u) lb lo:=by
 obtain⟨d,a⟩:=(hs.call k).put hj u;exact⟨d,hv.kb a (by have:=hs.ll;have:=hs.gy;omega)⟩
theorem cln(hs:S6 w W lb y r vs zs)(hv:aZ W lb lo)(hM:b_ M w)(own:bD aU 66 w3 (y::r::M) W.heap.size v m l)(hb:Below W W w3)(hj:vs[j]?=some u0)(u:Value):
 ∃b0 vs',vs.set j u=vs'/\L6 w (w3.setCell ⟨y,j,none⟩ u) lb y r b0 M vs' zs v m l lo:=by
 obtain⟨i,d⟩:=(hs.go hb).put hj u;have f:lb<W.heap.size:=hv.lt;refine⟨W,_,rfl,i,own.spare d (fun q a=>by rw[bz]at a;subst a;simp) (fun q a=>by rw[bz]at a;subst a;exact hs.ly),(hv.block (hb.block _ f)).kb d (by have:=hs.ll;have:=hs.gy;omega),hs.ly,hs.lr,fun q a=>bX (hM q a) hs.kb.k.size⟩
theorem L6.fin{B:Option Addr}{d:Nat}(h:L6 w W lb y r b0 M vs zs (.slice B m d) m l lo)(hm:m<=100000)(us:List Value){W':World}(hW:fM W r 0 us=W'):Sl aU W' M B m d l/\KB lb w W'/\aZ W' lb lo:=by
 have f:Keeps [r] W W':=by rw[<-hW];exact qV (w:=W) us 0 W
 have t:=h.s.ll;have P:=h.s.gr;have o:Below lb W W':=by rw[<-hW];exact aau pj us _ (bL lb W)
 obtain⟨A,c,e,hs⟩:=h.own.sl pj (fun q a=>by
  rcases cD.1 a with rfl|a;·exact h.by_
  rcases cD.1 a with rfl|a;·exact h.br_
  exact h.bm q a)
 cases e;exact⟨(hs.keep (f.mono (fun q a=>by rw[bz]at a;subst a;simp))).less (fun q a=>by simp[a]),⟨⟨cF h.s.kb.k.size f.size,fun b i p=>(f.block b (bX i h.s.kb.k.size) px).trans (h.s.kb.k.block b i p)⟩,h.s.kb.bl.trans o⟩,h.lo.kb f pj⟩
theorem CU(cn rn:List ByteArray){l:List aU}(h:l.length=k):(l.take k).map (lC cn rn)++l.drop k=E5 cn rn l:=by rw[bR pj,cB pj,dx,xH]
theorem L6.step{g cap k:Nat}{us:List Value}{x:aU}(h:L6 w W lb y r b0 M vs zs (.slice (some ⟨g,0,none⟩) m cap) m l lo)(kb:KB lb W w2)(PZ:lb∈M)(hv:aZ w2 lb lo')(hk:k<m)(hr:kH w2 (g::y::r::M) x us){w':World}(hw':fM w2 g (k*5) us=w'):
 L6 w w' lb y r b0 M vs zs (.slice (some ⟨g,0,none⟩) m cap) m (l.set k x) lo':=by
 have t:=(h.own.lt (k:=g) rfl).1;have i:=h.own.spare kb.k (fun q a=>by rw[bz]at a;subst a;simp[PZ]) (fun q a=>by rw[bz]at a;subst a;exact h.bm _ PZ);obtain⟨o,d⟩:=i.ags hk hr hw';have p:lb<b0:=h.bm _ PZ;have f:Below lb w2 w':=by rw[<-hw'];exact aau pj us _ (bL lb w2)
 have:=h.by_;have:=h.br_;have:=h.s.gy;exact⟨(h.s.call kb).row d f pj pj pj,o,hv.kb d pj,h.by_,h.br_,h.bm⟩
end
def ExC(lb fb cb rb eb bc br:Nat)(cn rn:List ByteArray)(x:aU):Prop:=∀{M:List Nat}{A:Option Addr}{m c:Nat}{lo:Bool}{w:World},Sl aU w M A m c x.l->Ut x->nodes x<=100000->RE w lb fb cb rb eb bc br cn rn->aZ w lb lo->lb∈M->b_ M w->Calls prog 245 #[.agg #[x.kind,x.name,x.n,x.d,.slice A m c],.pointer (some ⟨fb,0,none⟩),.pointer (some ⟨cb,0,none⟩),.pointer (some ⟨rb,0,none⟩),.pointer (some ⟨eb,0,none⟩)] w fun e w'=>∃B m' d',e=.returned (.agg #[x.kind,x.name,.int .i64 (qW cn rn x.kind x.name x.n),x.d,.slice B m' d'])/\Sl aU w' M B m' d' (E5 cn rn x.l)/\KB lb w w'/\aZ w' lb (.bool (lo||iV cn rn x))
theorem ExT{p:Prop}(h:p:=by
 refine wid ?_;have ZA:=gV x;have ae:=hs.len;have ZB:=jX x.l;have XD:m<=100000:=pj;have xJ:=NS hok;have Q:=xG cn rn x;obtain⟨l,ak⟩:=aC x.l;rw[ak]at hs ZA ae ZB xJ Q ih;obtain⟨kd,ab⟩:=aC x.kind;obtain⟨nm,ac⟩:=aC x.name;obtain⟨L,ar⟩:=aC x.n;obtain⟨xd,aq⟩:=aC x.d;obtain⟨LE,CV⟩:=aC (iV cn rn x);rw[ab,ac]at Q;rw[CV]at Q;rw[ac]at xJ;rw[ab,ac,ar,aq,ak,CV];have EX:=Hd hkq;rw[ab]at hkq;have HN:=h_ (show dh l<=100000 by omega) ae XD Q;have IH:=Hd ih;have Ko:=Hd xJ;clear ab ac ar aq CV Q ak ih hok hnd ZA ae ZB xJ XD;obtain⟨W1,aA,F1⟩:=dR (((Fr.nil w).a w [kd,nm,L,xd,.slice A m c] 66).a (w+1) [.int .i64 0,.string ⟨#[]⟩,.int .i64 0,.int .i64 0,.slice none 0 0] 66);have ag:=hlo.lt;have F:S6 w W1 lb w.heap.size (w.heap.size+1) [kd,nm,L,xd,.slice A m c] [.int .i64 0,.string ⟨#[]⟩,.int .i64 0,.int .i64 0,.slice none 0 0]:=⟨⟨bq F1.bl _,F1.bl.mono (cY ag)⟩,ag,bj _,ja _,F1.mJ 0,F1.mJ 1,pj,fun i u hu=>F1.at_ _ _ po i u hu,fun i u hu=>F1.at_ _ _ po i u hu⟩;have V1:aZ W1 lb lo:=hlo.block (F1.bl.block lb ag);have R:=hre.kb F.kb;have rf:=R.f.1;have rc:=R.c.1;have rr:=R.r.1;obtain⟨c0,-⟩:=F.cy 0 _ rfl;obtain⟨c1,-⟩:=F.cy 1 _ rfl;obtain⟨c2,d2⟩:=F.cy 2 _ rfl;obtain⟨c4,d4⟩:=F.cy 4 _ rfl;have C:=Hd2 F V1;have O:=Hd2 hre R;have HM:=fB hs PZ hM;clear F V1 R F1 hre hlo hs hM PZ
 (first
   |subst hkq
   |(obtain⟨k2,k5⟩:=hkq;have ad:=Hd2 (show qW cn rn kd nm L=L by unfold qW;rw[if_neg k2,if_neg k5]) (show(lo||sO cn rn kd nm)=lo by unfold sO;rw[if_neg k2,if_neg k5];simp);have z:=C))
 refine ent func245 ntmps245 ?_
 gi_wp2_with (first
  |(refine Cl 246 (vK (z.a.sl HM.a HM.b) HN.c) ?_;rintro e w3 ⟨v,rfl,own,aa⟩;obtain⟨B,d,rfl,-⟩:=own.sl (by have:=HN.c;omega) (fun q t=>by
     rcases cD.1 t with rfl|t;·exact z.a.ly
     rcases cD.1 t with rfl|t;·exact z.a.lr
     exact bX (HM.v q t) z.a.kb.k.size)
    obtain⟨b0,vs,aj,o⟩:=cln z.a z.u HM.v own aa (j:=4) rfl (.slice B m d);obtain⟨H,al,I,am,ao⟩:=Uu ad;rw[ao]at o;simp only[fq,eM,am]at aj;have HL:=Hd o;have ZF:=Hd aj;obtain⟨-,e4⟩:=(z.a.go aa).cy 4 _ rfl;obtain⟨g4,-⟩:=(z.a.go aa).cy 4 _ rfl;clear o aj own aa am ao)
  |(have g:Hid (x.kind=2):=EX;clear g;refine Cl 244 (xE O.u.ic rfl Ko.out.1 C.u) ?_;rintro e w2 ⟨rfl,D,v2⟩;have z:=Hd (fnd C.a D v2 (j:=2) rfl (.int .i64 ((xA cn nm:Nat):Int)));have ad:=Hd2 (show qW cn rn 2 nm L=((xA cn nm:Nat):Int) by simp[qW]) (show(lo||sO cn rn 2 nm)=(lo||xB cn nm) by simp[sO]);obtain⟨g2,e2⟩:=(C.a.call D).cy 2 _ rfl;obtain⟨g4,e4⟩:=(C.a.call D).cy 4 _ rfl;clear D v2)
  |(refine Cl 244 (xE O.u.ir rfl Ko.out.1 C.u) ?_;rintro e w2 ⟨rfl,D,v2⟩;have z:=Hd (fnd C.a D v2 (j:=2) rfl (.int .i64 ((xA rn nm:Nat):Int)));have ad:=Hd2 (show qW cn rn 5 nm L=((xA rn nm:Nat):Int) by simp[qW]) (show(lo||sO cn rn 5 nm)=(lo||xB rn nm) by simp[sO]);obtain⟨g2,e2⟩:=(C.a.call D).cy 2 _ rfl;obtain⟨g4,e4⟩:=(C.a.call D).cy 4 _ rfl;clear D v2)
  |fail)
 have au:=Hd (show L6 w _ lb w.heap.size (w.heap.size+1) b0 M vs [.int .i64 0,.string ⟨#[]⟩,.int .i64 0,.int .i64 0,.slice none 0 0] (.slice B m d) m ((l.take 0).map (lC cn rn)++l.drop 0) (al||(l.take 0).any (iV cn rn)) by simpa using HL.out);gi_loopw[7,33] (fun _ i wr=>∃k:Nat,k<=m/\i=.int .i64 k/\Hid (L6 w wr lb w.heap.size (w.heap.size+1) b0 M vs [.int .i64 0,.string ⟨#[]⟩,.int .i64 0,.int .i64 0,.slice none 0 0] (.slice B m d) m ((l.take k).map (lC cn rn)++l.drop k) (al||(l.take k).any (iV cn rn)))) (fun _ i _=>m-(intOf i).toNat);case atStart=>exact⟨0,cf _,rfl,au⟩
 case round=>
  obtain⟨k,hk,rfl,o⟩:=hrel;obtain⟨lk,af⟩:=aC (al||(l.take k).any (iV cn rn));rw[af]at o;have Ux:=Hd af;clear af;by_cases ah:k<m
  ·obtain⟨g,cap,hv⟩:=qA o.out.own pj;cases hv;obtain⟨y,V⟩:=dW l k (by rw[HN.b];exact ah);obtain⟨es,r1,T⟩:=o.out.own.get (CS (lC cn rn) V);obtain⟨B2,m2,d5,rfl,hi,ap⟩:=kH.sl r1;have an:b0<=g:=(o.out.own.lt (k:=g) rfl).1;have ax:lb<b0:=o.out.bm _ HM.b;have G:g≠lb:=pj;have ny:w.heap.size≠lb:=pj;have RW:=(O.a.kb o.out.s.kb);have v0:=aF (Mr:= [lb]) (by simpa using ny) (o.out.s.cy 4 (.slice (some ⟨g,0,none⟩) m d) (by rw[<-ZF.out];rfl)).1;have v1:=aF (Mr:= [lb]) (by simpa using RW.ne) RW.e.1;have x0:∀w',Keeps [lb] wr.drew w'->w'.cell? ⟨g,k*5,none⟩=some (.int .i64 y.kind):=aF (Mr:= [lb]) (by simpa using G) (T 0 _ rfl).1;have x1:∀w',Keeps [lb] wr.drew w'->w'.cell? ⟨g,k*5+1,none⟩=some (.string y.name):=aF (Mr:= [lb]) (by simpa using G) (T 1 _ rfl).1;have x2:∀w',Keeps [lb] wr.drew w'->w'.cell? ⟨g,k*5+2,none⟩=some (.int .i64 y.n):=aF (Mr:= [lb]) (by simpa using G) (T 2 _ rfl).1;have x3:∀w',Keeps [lb] wr.drew w'->w'.cell? ⟨g,k*5+3,none⟩=some (.int .i64 y.d):=aF (Mr:= [lb]) (by simpa using G) (T 3 _ rfl).1;have x4:∀w',Keeps [lb] wr.drew w'->w'.cell? ⟨g,k*5+4,none⟩=some (.slice B2 m2 d5):=aF (Mr:= [lb]) (by simpa using G) (T 4 _ rfl).1;have HY:=oK V hi ap (BA Ko.out.2 (bh V)) (cF (fK (bh V)) HN.a);have HG:=fB G an ax;have av:=Hd RW;have P:=Hd T;clear V hi r1 T ap an RW;gi_wp2;refine aP [lb] 11 pk pk ?_;refine ay 0 ?_;refine ay 1 ?_;refine ay 2 ?_;refine ay 3 ?_;refine ay 4 ?_;refine ay 5 ?_;refine ay 6 ?_;refine ay 7 ?_;refine ay 8 ?_;refine eU 9 fun K hK=>?_;gi_wp2;refine Cl 245 (IH.out y (bh HY.a) (HY.c.keep (cG _ wr).drew) HY.d HY.x (av.out.of fun _ _ _=>rfl) (o.out.lo.block rfl) (by simp[HM.b]) (fun q t=>by
    rcases cD.1 t with rfl|t;·exact(o.out.own.lt rfl).2
    rcases cD.1 t with rfl|t;·exact o.out.s.ly
    rcases cD.1 t with rfl|t;·exact o.out.s.lr
    exact bX (HM.v q t) o.out.s.kb.k.size)) ?_
   rintro e w5 ⟨B5,m5,d6,rfl,s5,jD,v5⟩;have Uy:=(KB.drew' lb wr).trans jD;have ai:=o.out.step Uy HM.b v5 ah (us:= [y.kind,y.name,.int .i64 (qW cn rn y.kind y.name y.n),y.d,.slice B5 m5 d6]) (x:=lC cn rn y) (by rw[BD];exact kH.of ⟨HY.out.2.1.1,CP O.a.lc O.a.lr _ _ HY.out.2.1.2.1,HY.out.2.1.2.2⟩ s5) rfl;rw[CQ (lC cn rn) HY.a,<-Ux.out,ma,<-xI (iV cn rn) HY.a]at ai;have HF:=Hd ai;have J:=Uy.k.block g (o.out.own.lt (k:=g) rfl).2 (by simpa using G);obtain⟨N,f0⟩:=jB (P.out 0 _ rfl) J;obtain⟨X,f1⟩:=jB (P.out 1 _ rfl) J;obtain⟨Y,f2⟩:=jB (P.out 2 _ rfl) J;obtain⟨Z,f3⟩:=jB (P.out 3 _ rfl) J;obtain⟨z4,f4⟩:=jB (P.out 4 _ rfl) J;rw[show k*Rep.sz aU=k*5 from rfl]at N X Y Z z4 f0 f1 f2 f3 f4;rw[eB]at N f0;refine hK _ _ ⟨?_,?_⟩;clear hK K;·exact jD.k
   refine lit ?_;clear jD v5 Uy s5 ai J v0 v1 x0 x1 x2 x3 x4;have aB:=HN.c;refine ay 10 ?_;refine iq 1 ?_;refine jW fun K hK K' az=>?_;gi_wp2;refine et _ ?_;simp only[cu];gi_wp2;exact⟨⟨k+1,pj,by go_num,HF⟩,by simp[intOf];omega⟩
  ·have aw:k=m:=pj;clear hk ah;subst aw;have hv:=ZF.out;subst hv;have S:=o.out.s;have y0:=(S.cy 0 _ rfl).1;have y1:=(S.cy 1 _ rfl).1;have y2:=(S.cy 2 _ rfl).1;have y3:=(S.cy 3 _ rfl).1;have y4:=(S.cy 4 _ rfl).1;obtain⟨N,f0⟩:=S.cr 0 _ rfl;obtain⟨X,f1⟩:=S.cr 1 _ rfl;obtain⟨Y,f2⟩:=S.cr 2 _ rfl;obtain⟨Z,f3⟩:=S.cr 3 _ rfl;obtain⟨z4,f4⟩:=S.cr 4 _ rfl;clear S;gi_wp2
   (first
     |(have E:=o.out.fin HN.c [kd,nm,H,xd,.slice B k d] rfl;rw[CU cn rn HN.b,<-Ux.out,bR (by rw[HN.b];exact bj _),<-nP,<-I.u,ma,<-HN.w]at E;exact⟨rfl,.agg #[kd,nm,H,xd,.slice B k d],by simp[results,go_sem,N,X,Y,Z,z4],B,k,d,by rw[I.a],E⟩)
     |(have g:Hid (x.kind=2):=EX;have E:=o.out.fin HN.c [.int .i64 2,nm,H,xd,.slice B k d] rfl;rw[CU cn rn HN.b,<-Ux.out,bR (by rw[HN.b];exact bj _),<-nP,<-I.u,ma,<-HN.w]at E;exact⟨rfl,.agg #[.int .i64 2,nm,H,xd,.slice B k d],by simp[results,go_sem,N,X,Y,Z,z4],B,k,d,by rw[I.a],E⟩)
     |(have E:=o.out.fin HN.c [.int .i64 5,nm,H,xd,.slice B k d] rfl;rw[CU cn rn HN.b,<-Ux.out,bR (by rw[HN.b];exact bj _),<-nP,<-I.u,ma,<-HN.w]at E;exact⟨rfl,.agg #[.int .i64 5,nm,H,xd,.slice B k d],by simp[results,go_sem,N,X,Y,Z,z4],B,k,d,by rw[I.a],E⟩))):p:=h
theorem Uw{lb:Nat}(x:aU)(ih:∀y,y∈x.l->ExC lb fb cb rb eb bc br cn rn y)(hkq:x.kind=2):ExC lb fb cb rb eb bc br cn rn x:=by intro M A m c lo w hs hok hnd hre hlo PZ hM;exact ExT
theorem Q_{lb:Nat}(x:aU)(ih:∀y,y∈x.l->ExC lb fb cb rb eb bc br cn rn y)(hkq:x.kind=5):ExC lb fb cb rb eb bc br cn rn x:=by intro M A m c lo w hs hok hnd hre hlo PZ hM;exact ExT
theorem Uz{lb:Nat}(x:aU)(ih:∀y,y∈x.l->ExC lb fb cb rb eb bc br cn rn y)(hkq:¬x.kind=2/\¬x.kind=5):ExC lb fb cb rb eb bc br cn rn x:=by intro M A m c lo w hs hok hnd hre hlo PZ hM;exact ExT
theorem UA{lb:Nat}(x:aU):ExC lb fb cb rb eb bc br cn rn x:=by
 induction x using iY with
 |_ x ih=>
  by_cases d:x.kind=2;·exact Uw x ih d
  ·by_cases a:x.kind=5;·exact Q_ x ih a
   exact Uz x ih ⟨d,a⟩
