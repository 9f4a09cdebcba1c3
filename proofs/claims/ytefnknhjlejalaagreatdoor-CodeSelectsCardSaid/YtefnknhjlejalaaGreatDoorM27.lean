/- Lemmas and walks; no statement is proved here. -/
import Derived.Lib.SliceRun
import Derived.Test.YtefnknhjlejalaaGreatDoorM26
set_option linter.unusedVariables false
set_option linter.unusedSimpArgs false
set_option maxRecDepth 20000
set_option maxHeartbeats 6000000
namespace Go.Proofs.YtefnknhjlejalaaGreatDoor
open Go.Proofs.Tryz Go.RowKit Go.Shelf
theorem acV{p:Prop}(h:p:=by
 obtain⟨g,cap,hv⟩:=qA hL.out.own (by omega);cases hv;obtain⟨y,hy⟩:=dW l k (by rw[HN.out.2.1];exact hlt);obtain⟨es,r1,r2⟩:=hL.out.own.get (CS (lC cn rn) hy);obtain⟨B2,m2,d5,rfl,hi,hs2⟩:=kH.sl r1;have hgb:b0<=g:=(hL.out.own.lt (k:=g) rfl).1;have hlb0:lb<b0:=hL.out.bm _ HM.out.2.1;have ng:g≠lb:=by omega
 have ny:w.heap.size≠lb:=by omega
 have RW:=(HR.out.1.kb hL.out.s.kb);have v0:=aF (Mr:= [lb]) (by simpa using ny) (hL.out.s.cy 4 (.slice (some ⟨g,0,none⟩) m d) (by rw[<-ZF.out];rfl)).1;have v1:=aF (Mr:= [lb]) (by simpa using RW.ne) RW.e.1;have x0:∀w',Keeps [lb] wr.drew w'->w'.cell? ⟨g,k*5,none⟩=some (.int .i64 y.kind):=aF (Mr:= [lb]) (by simpa using ng) (r2 0 _ rfl).1;have x1:∀w',Keeps [lb] wr.drew w'->w'.cell? ⟨g,k*5+1,none⟩=some (.string y.name):=aF (Mr:= [lb]) (by simpa using ng) (r2 1 _ rfl).1;have x2:∀w',Keeps [lb] wr.drew w'->w'.cell? ⟨g,k*5+2,none⟩=some (.int .i64 y.n):=aF (Mr:= [lb]) (by simpa using ng) (r2 2 _ rfl).1;have x3:∀w',Keeps [lb] wr.drew w'->w'.cell? ⟨g,k*5+3,none⟩=some (.int .i64 y.d):=aF (Mr:= [lb]) (by simpa using ng) (r2 3 _ rfl).1;have x4:∀w',Keeps [lb] wr.drew w'->w'.cell? ⟨g,k*5+4,none⟩=some (.slice B2 m2 d5):=aF (Mr:= [lb]) (by simpa using ng) (r2 4 _ rfl).1;have HY:=Hd5 hy hi hs2 (BA Ko.out.2 (List.mem_of_getElem? hy)) (Nat.le_trans (fK (List.mem_of_getElem? hy)) HN.out.1);have HG:=fB ng hgb hlb0;have HRW:=Hd RW;have HR2:=Hd r2;clear hy hi r1 r2 hs2 hgb RW;gi_wp2;refine aP [lb] 11 (by kernel_rfl) (by kernel_rfl) ?_;refine ay 0 ?_;refine ay 1 ?_;refine ay 2 ?_;refine ay 3 ?_;refine ay 4 ?_;refine ay 5 ?_;refine ay 6 ?_;refine ay 7 ?_;refine ay 8 ?_;refine eU 9 fun K hK=>?_;gi_wp2;refine Cl 179 (IH.out y (List.mem_of_getElem? HY.out.1) (HY.out.2.2.1.keep (Keeps.refl _ wr).drew) HY.out.2.2.2.1 HY.out.2.2.2.2 (HRW.out.of fun _ _ _=>rfl) (hL.out.lo.block rfl) (by simp[HM.out.2.1]) (fun q hq=>by
  rcases List.mem_cons.1 hq with rfl|hq;·exact(hL.out.own.lt rfl).2
  rcases List.mem_cons.1 hq with rfl|hq;·exact hL.out.s.ly
  rcases List.mem_cons.1 hq with rfl|hq;·exact hL.out.s.lr
  exact Nat.lt_of_lt_of_le (HM.out.2.2 q hq) hL.out.s.kb.k.size)) ?_
 rintro e w5 ⟨B5,m5,d6,rfl,s5,jD,v5⟩;have Uy:=(KB.drew' lb wr).trans jD;have hst:=hL.out.step Uy HM.out.2.1 v5 hlt (us:= [.int .i64 y.kind,.string y.name,.int .i64 (qW cn rn y.kind y.name y.n),.int .i64 y.d,.slice B5 m5 d6]) (x:=lC cn rn y) (by rw[BD];exact kH.of ⟨HY.out.2.1.1,CP HR.out.1.lc HR.out.1.lr _ _ HY.out.2.1.2.1,HY.out.2.1.2.2⟩ s5) rfl;rw[CQ (lC cn rn) HY.out.1,<-Ux.out,Bool.or_assoc,<-xI (iV cn rn) HY.out.1]at hst;have HF:=Hd hst;have hbk:=Uy.k.block g (hL.out.own.lt (k:=g) rfl).2 (by simpa using ng);obtain⟨z0,f0⟩:=jB (HR2.out 0 _ rfl) hbk;obtain⟨z1,f1⟩:=jB (HR2.out 1 _ rfl) hbk;obtain⟨z2,f2⟩:=jB (HR2.out 2 _ rfl) hbk;obtain⟨z3,f3⟩:=jB (HR2.out 3 _ rfl) hbk;obtain⟨z4,f4⟩:=jB (HR2.out 4 _ rfl) hbk;rw[show k*Rep.sz aU=k*5 from rfl]at z0 z1 z2 z3 z4 f0 f1 f2 f3 f4;rw[Nat.add_zero]at z0 f0;refine hK _ _ ⟨?_,?_⟩;clear hK K;·exact jD.k
 refine lit ?_;clear jD v5 Uy s5 hst hbk v0 v1 x0 x1 x2 x3 x4;have hmm:=HN.out.2.2.1;refine ay 10 ?_;refine iq 1 ?_;refine jW fun K hK K' hK'=>?_;gi_wp2;refine tail_nil _ ?_;simp only[cu];gi_wp2;exact⟨⟨k+1,by omega,by go_num,HF⟩,by simp[intOf];omega⟩):p:=h
theorem ac1{p:Prop}(h:p:=by
 cases A with
 |none=>gi_wp2;go_ret;exact⟨_,rfl,by
   have h0:l= []:=by
    rcases HZ.out.at_ with g|⟨b,o,h,-⟩;·exact g
    cases h
   have hn:=HZ.out.len;subst h0;cases hn;exact bD.nil _ _ _,Below.refl _ _⟩
 |some a=>
  gi_wp2_with (first
   |(gi_at_builtin;refine wpListIn_plain rfl fun K hK'=>?_;refine aI _ _ _ rfl rfl rfl HR.out (hK' _ _ ?_);clear hK' K)
   |fail)
  go_ret;exact⟨_,rfl,HO.out.1,HO.out.2⟩):p:=h
theorem aeJ{p:Prop}(h:p:=by obtain⟨es,a,b⟩:=h2 i x hx;exact⟨es,Rep.keep a (k.mono (fun q hq=>List.mem_append_right _ (hs q hq))),b⟩):p:=h
variable {b k j fb cb rb eb bc br:Nat}{us:List Value}{w':World}{x:aU}{cn rn:List ByteArray}{u0:Value}
instance:kJ ByteArray:=⟨by rintro w M x cs h u hu;have h:cs=_:=h;subst h;simp at hu;subst hu;rfl⟩
instance:kJ aU:=⟨by
 intro w M x cs h u hu;obtain⟨A,m,c,rfl,-,-⟩:=kH.sl h;simp at hu;rcases hu with rfl|rfl|rfl|rfl|rfl<;>rfl⟩
def iU(e:TypeId)(sz:Nat):Prop:=∃i z,prog.info? e=some i/\i.zero=some z/\i.size=sz/\z.cells.size=sz/\i.bytes<=200
theorem Q7:(prog.info? 87).map (fun i=>(i.zero,i.size,i.bytes))=some (some (.agg #[.int .i64 0,.string ⟨#[]⟩,.int .i64 0,.int .i64 0,.slice none 0 0]),5,64):=by kernel_rfl
theorem Ur:(prog.info? 147).map (fun i=>(i.zero,i.size,i.bytes))=some (some (.agg #[.int .i64 0,.string ⟨#[]⟩,.int .i64 0]),3,32):=by kernel_rfl
theorem Gt:(prog.info? 121).map (fun i=>(i.zero,i.size,i.bytes))=some (some (.agg #[.string ⟨#[]⟩,.int .i64 0,.int .i64 0]),3,32):=by kernel_rfl
theorem Us:(prog.info? 169).map (fun i=>(i.zero,i.size,i.bytes))=some (some (.agg #[.string ⟨#[]⟩,.slice none 0 0]),2,40):=by kernel_rfl
theorem NR:(prog.info? 89).map (fun i=>(i.zero,i.size,i.bytes))=some (some (.agg #[.string ⟨#[]⟩,.int .i64 0,.int .i64 0,.int .i64 0,.bool false,.bool false,.int .i64 0,.string ⟨#[]⟩,.int .i64 0,.int .i64 0,.slice none 0 0,.string ⟨#[]⟩,.int .i64 0]),13,136):=by kernel_rfl
theorem iU.mk'{e:TypeId}{sz:Nat}{z:Value}(h:(prog.info? e).map (fun i=>(i.zero,i.size,i.bytes))=some (some z,sz,b))(hz:z.cells.size=sz)(hb:b<=200):iU e sz:=by obtain⟨i,h1,h2,h3,h4⟩:=info_parts h;exact⟨i,z,h1,h2,h3,hz,by omega⟩
theorem uz{α:Type} [kJ α] {t e:TypeId}(ht:prog.underlying t=some (.slice e))(hi:iU e (Rep.sz α)){w:World}{M:List Nat}{A:Option Addr}{n c:Nat}{l:List α}(h:Sl α w M A n c l)(hn:n<=100000):
 ∃v w',(Builtin.append_ #[t,t] t #[.slice (some ⟨w.heap.size,0,none⟩) 0 0,.slice A n c]).run prog (w.alloc (.cells #[] e))=.ok v w'/\bD α e w' M w.heap.size v n l/\Below w.heap.size w w':=by
 obtain⟨i,z,i1,i2,i3,i4,i5⟩:=hi;have o1:=bD.lit (α:=α) (e:=e) w M (base:=w.heap.size) (Nat.le_refl _);have hs2:=(h.more (b:=w.heap.size) (Nat.le_refl _)).keep (w':=w.alloc (.cells #[] e)) (Keeps.of_below ((Below.refl w.heap.size w).alloc (Nat.le_refl _) _) _);obtain⟨v',W',r1,r2,r3,-⟩:=o1.uy (ty:=t) (t:=t) (by simp) ht i1 i2 i3 i4 hs2 (by have:=Nat.mul_le_mul (show 0+n<=100000 by omega) i5;omega) (by omega);rw[Nat.zero_add,List.nil_append]at r2;exact⟨v',W',r1,r2,(((Below.refl w.heap.size w).alloc (Nat.le_refl _) _).grown r3 (by simp) (fun k hk=>by cases hk;exact Nat.le_refl _))⟩
theorem CJ:iU 87 (Rep.sz aU):=iU.mk' Q7 rfl (by omega)
theorem vK{M:List Nat}{A:Option Addr}{n c:Nat}{l:List aU}{w:World}(hx:Sl aU w M A n c l)(hn:n<=100000):
 Calls prog 180 #[.slice A n c] w fun e w'=>∃v,e=.returned v/\bD aU 87 w' M w.heap.size v n l/\Below w.heap.size w w':=by
 refine wid ?_;obtain⟨v,w2,r1,r2,r3⟩:=uz underlying85 CJ hx hn;have HR:=Hd r1;have HO:=Hd2 r2 r3;have HZ:=Hd hx;clear r1 r2 r3 hx hn;have q22:∀(w:World) (a:Option Addr) (n c n' c':Nat),(binOp .eql 85 (.slice a n c) (.slice none n' c')).run prog w=.ok (.bool a.isNone) w:=fun w a n c n' c'=>Lib.run_eql_slice_nil w _ _ a n c n' c' underlying85;refine ent func180 rfl ntmps180 ?_;exact ac1
theorem Gu:iU 169 (Rep.sz dA):=iU.mk' Us rfl (by omega)
theorem Q8{M:List Nat}{A:Option Addr}{n c:Nat}{l:List dA}{w:World}(hx:Sl dA w M A n c l)(hn:n<=100000):
 Calls prog 181 #[.slice A n c] w fun e w'=>∃v,e=.returned v/\bD dA 169 w' M w.heap.size v n l/\Below w.heap.size w w':=by
 refine wid ?_;obtain⟨v,w2,r1,r2,r3⟩:=uz underlying49 Gu hx hn;have HR:=Hd r1;have HO:=Hd2 r2 r3;have HZ:=Hd hx;clear r1 r2 r3 hx hn;have q22:∀(w:World) (a:Option Addr) (n c n' c':Nat),(binOp .eql 49 (.slice a n c) (.slice none n' c')).run prog w=.ok (.bool a.isNone) w:=fun w a n c n' c'=>Lib.run_eql_slice_nil w _ _ a n c n' c' underlying49;refine ent func181 rfl ntmps181 ?_;exact ac1
theorem sN:iU 89 (Rep.sz aJ):=iU.mk' NR rfl (by omega)
theorem JZ{M:List Nat}{A:Option Addr}{n c:Nat}{l:List aJ}{w:World}(hx:Sl aJ w M A n c l)(hn:n<=100000):
 Calls prog 182 #[.slice A n c] w fun e w'=>∃v,e=.returned v/\bD aJ 89 w' M w.heap.size v n l/\Below w.heap.size w w':=by
 refine wid ?_;obtain⟨v,w2,r1,r2,r3⟩:=uz underlying50 sN hx hn;have HR:=Hd r1;have HO:=Hd2 r2 r3;have HZ:=Hd hx;clear r1 r2 r3 hx hn;have q22:∀(w:World) (a:Option Addr) (n c n' c':Nat),(binOp .eql 50 (.slice a n c) (.slice none n' c')).run prog w=.ok (.bool a.isNone) w:=fun w a n c n' c'=>Lib.run_eql_slice_nil w _ _ a n c n' c' underlying50;refine ent func182 rfl ntmps182 ?_;exact ac1
theorem qy:iU 147 (Rep.sz bK):=iU.mk' Ur rfl (by omega)
theorem Q9{M:List Nat}{A:Option Addr}{n c:Nat}{l:List bK}{w:World}(hx:Sl bK w M A n c l)(hn:n<=100000):
 Calls prog 183 #[.slice A n c] w fun e w'=>∃v,e=.returned v/\bD bK 147 w' M w.heap.size v n l/\Below w.heap.size w w':=by
 refine wid ?_;obtain⟨v,w2,r1,r2,r3⟩:=uz underlying148 qy hx hn;have HR:=Hd r1;have HO:=Hd2 r2 r3;have HZ:=Hd hx;clear r1 r2 r3 hx hn;have q22:∀(w:World) (a:Option Addr) (n c n' c':Nat),(binOp .eql 148 (.slice a n c) (.slice none n' c')).run prog w=.ok (.bool a.isNone) w:=fun w a n c n' c'=>Lib.run_eql_slice_nil w _ _ a n c n' c' underlying148;refine ent func183 rfl ntmps183 ?_;exact ac1
theorem XT{w:World}{base:Nat}{e:TypeId}{size g n cap:Nat}{cs:List Value}(h:w.ownsRow base e size (.slice (some ⟨g,0,none⟩) n cap) n cs)(k:Nat)(u:Value)(hk:k<n*size):
 (w.setCell ⟨g,k,none⟩ u).ownsRow base e size (.slice (some ⟨g,0,none⟩) n cap) n (cs.set k u):=by
 refine⟨by rw[List.length_set];exact h.1,?_⟩;rcases h.2 with⟨e0,_⟩|⟨g',cap',cur,e0,hb,hh,hnc,hcm,hsz,htk⟩;·cases e0
 ·cases e0;refine .inr ⟨g,cap,cur.setIfInBounds k u,rfl,hb,?_,hnc,hcm,by simpa using hsz,?_⟩;·simp only[World.setCell,Array.getElem?_modify,if_true];rw[hh];simp only[Option.map_some,Option.isSome_none,Bool.false_eq_true,if_false]
  rw[<-htk,Array.toList_setIfInBounds,List.take_set]
def fM(w:World)(b:Nat):Nat->List Value->World
 |_, []=>w
 |o,u::us=>fM (w.setCell ⟨b,o,none⟩ u) b (o+1) us
theorem qV{w:World}{b:Nat}:∀(us:List Value) (o:Nat) (w:World),Keeps [b] w (fM w b o us)
 | [],_,w=>Keeps.refl _ w
 |u::us,o,w=>((Keeps.refl [b] w).setCell (p:=⟨b,o,none⟩) (.inl (by simp)) u).trans (qV (w:=w) us (o+1) _)
theorem lq{b s:Nat}(hs:s<=b):∀(us:List Value) (o:Nat) {w0 w:World},Below s w0 w->Below s w0 (fM w b o us)
 | [],_,_,_,h=>h
 |u::us,o,_,_,h=>lq hs us (o+1) (h.setCell (p:=⟨b,o,none⟩) hs u)
theorem J4{base:Nat}{e:TypeId}{size g n cap:Nat}:∀(us:List Value) (o:Nat) {w:World}{cs:List Value},w.ownsRow base e size (.slice (some ⟨g,0,none⟩) n cap) n cs->o+us.length<=n*size->
 ∃cs',(fM w g o us).ownsRow base e size (.slice (some ⟨g,0,none⟩) n cap) n cs'/\∀i,cs'[i]?=if o<=i/\i<o+us.length then us[i-o]? else cs[i]?
 | [],o,w,cs,h,_=>⟨cs,h,fun i=>by rw[if_neg (by simp)]⟩
 |u::us,o,w,cs,h,ho=>by
  simp only[List.length_cons]at ho;obtain⟨cs',h1,h2⟩:=J4 us (o+1) (XT h o u (by omega)) (by omega);refine⟨cs',h1,fun i=>?_⟩;have hl:=h.1;rw[h2 i];simp only[List.length_cons];by_cases e1:i=o;·subst e1;rw[if_neg (by omega),if_pos (by omega),List.getElem?_set_self (by omega)];simp
  by_cases e2:o+1<=i/\i<o+1+us.length;·rw[if_pos e2,if_pos (by omega),show i-o=(i-(o+1))+1 by omega,List.getElem?_cons_succ]
  rw[if_neg e2,if_neg (by omega),List.getElem?_set_ne (by omega)]
section
variable {α:Type} [kJ α] {e:TypeId}{w:World}{M:List Nat}{base g n cap:Nat}{xs:List α}
theorem qA{v:Value}(h:bD α e w M base v n xs)(hn:0<n):∃g cap,v=.slice (some ⟨g,0,none⟩) n cap:=by
 obtain⟨cs,h1,-⟩:=h.ex;rcases h1.2 with⟨rfl,rfl⟩|⟨g,cap,cur,rfl,-⟩;·omega
 exact⟨g,cap,rfl⟩
theorem bD.get(h:bD α e w M base (.slice (some ⟨g,0,none⟩) n cap) n xs){x:α}(hk:xs[k]?=some x):∃es,Rep.rd w (g::M) x es/\(∀j u,es[j]?=some u->w.cell? ⟨g,k*Rep.sz α+j,none⟩=some u/\w.frozen? ⟨g,k*Rep.sz α+j,none⟩=false):=by
 obtain⟨cs,h1,h2⟩:=h.ex;obtain⟨es,r1,r2⟩:=h2 k x hk;refine⟨es,r1,fun j u hu=>?_⟩;rcases h1.2 with⟨e0,_⟩|⟨g',cap',cur,e0,hb,hh,hnc,hcm,hsz,htk⟩;·cases e0
 cases e0;have h3:=r2 j u hu;have hlt:=(List.getElem?_eq_some_iff.1 h3).1;have:=h1.1;rw[<-htk,List.getElem?_take_of_lt (by omega),Array.getElem?_toList]at h3;exact⟨by simp[World.cell?,hh,h3],by simp[World.frozen?,hh]⟩
theorem bD.Yo(h:bD α e w M base (.slice (some ⟨g,0,none⟩) n cap) n xs){x0 x:α}(hk:xs[k]?=some x0)(hj:j+us.length<=Rep.sz α)
 (hr:∀es,Rep.rd w (g::M) x0 es->Rep.rd w (g::M) x (es.take j++us++es.drop (j+us.length))) (hw':fM w g (k*Rep.sz α+j) us=w'):
 bD α e w' M base (.slice (some ⟨g,0,none⟩) n cap) n (xs.set k x)/\Keeps [g] w w':=by
 subst hw';have kp:=qV (w:=w) (b:=g) us (k*Rep.sz α+j) w;obtain⟨cs,h1,h2⟩:=h.ex;have hkn:k<n:=by rw[<-h.len];exact(List.getElem?_eq_some_iff.1 hk).1
 have hmul:(k+1)*Rep.sz α<=n*Rep.sz α:=Nat.mul_le_mul_right _ hkn;rw[Nat.add_mul,Nat.one_mul]at hmul;obtain⟨cs',r1,r2⟩:=J4 us (k*Rep.sz α+j) h1 (by omega);have kp2:Keeps (g::M) w (fM w g (k*Rep.sz α+j) us):=kp.mono (fun x hx=>by rw[List.mem_singleton]at hx;subst hx;exact List.mem_cons_self);refine⟨⟨by rw[List.length_set];exact h.len,cs',r1,fun i y hy=>?_⟩,kp⟩;by_cases hik:i=k
 ·subst hik;obtain⟨es,a,b⟩:=h2 i x0 hk;rw[List.getElem?_set_self (by rw[h.len];exact hkn)]at hy;cases hy;have hes:=Rep.len a;refine⟨_,Rep.keep (hr es a) kp2,fun q u hu=>?_⟩;rw[r2];by_cases q1:q<j;·rw[if_neg (by omega)];rw[List.append_assoc,List.getElem?_append_left (by simp;omega),List.getElem?_take_of_lt q1]at hu;exact b q u hu
  by_cases q2:q<j+us.length
  ·rw[if_pos (by omega),show i*Rep.sz α+q-(i*Rep.sz α+j)=q-j by omega];rw[List.append_assoc,List.getElem?_append_right (by simp;omega),List.getElem?_append_left (by simp;omega)]at hu
   rwa [List.length_take,Nat.min_eq_left (by omega)]at hu
  rw[if_neg (by omega)];rw[List.getElem?_append_right (by simp;omega),List.getElem?_drop]at hu;simp only[List.length_append,List.length_take]at hu;rw[show j+us.length+(q-(min j es.length+us.length))=q by omega]at hu;exact b q u hu
 ·rw[List.getElem?_set_ne (fun e=>hik e.symm)]at hy;obtain⟨es,a,b⟩:=h2 i y hy;have hes:=Rep.len a;refine⟨es,Rep.keep a kp2,fun q u hu=>?_⟩;have hq:=(List.getElem?_eq_some_iff.1 hu).1;rw[r2,if_neg,b q u hu];rcases Nat.lt_or_ge i k with hlt|hge;·have:=Nat.mul_le_mul_right (Rep.sz α) (show i+1<=k by omega);rw[Nat.add_mul,Nat.one_mul]at this;omega
  have:=Nat.mul_le_mul_right (Rep.sz α) (show k+1<=i by omega);rw[Nat.add_mul,Nat.one_mul]at this;omega
theorem bD.abz(h:bD α e w M base (.slice (some ⟨g,0,none⟩) n cap) n xs){x:α}(hk:k<n)(hr:Rep.rd w (g::M) x us)(hw':fM w g (k*Rep.sz α) us=w'):
 bD α e w' M base (.slice (some ⟨g,0,none⟩) n cap) n (xs.set k x)/\Keeps [g] w w':=by
 have hl:=Rep.len hr;obtain⟨x0,hx0⟩:=dW xs k (by rw[h.len];exact hk);refine h.Yo (j:=0) hx0 (by omega) (fun es hes=>?_) hw';have:=Rep.len hes;rw[List.take_zero,List.nil_append,List.drop_of_length_le (by omega),List.append_nil];exact hr
end
def qW(cn rn:List ByteArray)(k:Int)(s:ByteArray)(n:Int):Int:=if k=2 then(xA cn s:Nat)else if k=5 then(xA rn s:Nat)else n
def sO(cn rn:List ByteArray)(k:Int)(s:ByteArray):Bool:=if k=2 then xB cn s else if k=5 then xB rn s else false
mutual
def lC(cn rn:List ByteArray):aU->aU
 | .mk k s n d l=>.mk k s (qW cn rn k s n) d (E5 cn rn l)
def E5(cn rn:List ByteArray):List aU->List aU
 | []=> []
 |x::l=>lC cn rn x::E5 cn rn l
end
mutual
def iV(cn rn:List ByteArray):aU->Bool
 | .mk k s _ _ l=>sO cn rn k s||Gv cn rn l
def Gv(cn rn:List ByteArray):List aU->Bool
 | []=>false
 |x::l=>iV cn rn x||Gv cn rn l
end
mutual
def Ut:aU->Prop
 | .mk _ s _ _ l=>s.size<=maxLen/\XU l
def XU:List aU->Prop
 | []=>True
 |x::l=>Ut x/\XU l
end
theorem NS(h:Ut x):x.name.size<=maxLen/\XU x.l:=by cases x;rw[Ut]at h;exact h
theorem BA{y:aU}:∀{l:List aU},XU l->y∈l->Ut y
 |x::l,h,hy=>by
  rw[XU]at h;rcases List.mem_cons.1 hy with rfl|hy;·exact h.1
  exact BA h.2 hy
theorem BD(cn rn:List ByteArray)(x:aU):lC cn rn x=.mk x.kind x.name (qW cn rn x.kind x.name x.n) x.d (E5 cn rn x.l):=by cases x;rw[lC];rfl
theorem xG(cn rn:List ByteArray)(x:aU):iV cn rn x=(sO cn rn x.kind x.name||Gv cn rn x.l):=by cases x;rw[iV];rfl
theorem xH(cn rn:List ByteArray):∀l,E5 cn rn l=l.map (lC cn rn)
 | []=>rfl
 |x::l=>by rw[E5,xH cn rn l];rfl
theorem nP(cn rn:List ByteArray):∀l,Gv cn rn l=l.any (iV cn rn)
 | []=>rfl
 |x::l=>by rw[Gv,nP cn rn l];rfl
theorem CO{nm:List ByteArray}{s:ByteArray}:∀{k j:Nat},gW nm s k=some j->j<k
 |k+1,j,h=>by
  unfold gW at h;split at h;·cases h;omega
  have:=CO h;omega
theorem PY(nm:List ByteArray)(s:ByteArray):xA nm s<=nm.length:=by
 unfold xA
 cases h:gW nm s nm.length with
 |none=>simp
 |some j=>have:=CO h;simp;omega
theorem CP(hc:cn.length<=100000)(hr:rn.length<=100000)(k:Int)(s:ByteArray){n:Int}(h:i64 n):i64 (qW cn rn k s n):=by
 have h1:=PY cn s;have h2:=PY rn s;unfold qW i64 at*
 split;·omega
 split<;>omega
theorem CQ{α:Type}(f:α->α){l:List α}{x:α}(h:l[k]?=some x):(((l.take k).map f++l.drop k).set k (f x))=(l.take (k+1)).map f++l.drop (k+1):=by have hk:=(List.getElem?_eq_some_iff.1 h).1;rw[List.take_add_one,h,List.map_append];rw[List.set_append_right _ _ (by simp;omega)];simp only[List.length_map,List.length_take,Nat.min_eq_left (Nat.le_of_lt hk),Nat.sub_self,Option.toList_some,List.map_cons,List.map_nil];have e:=List.drop_eq_getElem_cons hk;rw[e,List.set_cons_zero,List.append_assoc];rfl
theorem CS{α:Type}(f:α->α){l:List α}{x:α}(h:l[k]?=some x):((l.take k).map f++l.drop k)[k]?=some x:=by have hk:=(List.getElem?_eq_some_iff.1 h).1;rw[List.getElem?_append_right (by simp;omega)];simp only[List.length_map,List.length_take,Nat.min_eq_left (Nat.le_of_lt hk),Nat.sub_self];rw[List.getElem?_drop,Nat.add_zero,h]
theorem xI{α:Type}(P:α->Bool){l:List α}{x:α}(h:l[k]?=some x):(l.take (k+1)).any P=((l.take k).any P||P x):=by rw[List.take_add_one,h,List.any_append];simp
structure RE(w:World)(lb fb cb rb eb bc br:Nat)(cn rn:List ByteArray):Prop where
 f:aZ w fb (.func (.func 178) #[] #[.pointer (some ⟨lb,0,none⟩)])
 c:aZ w cb (.map (some bc))
 r:aZ w rb (.map (some br))
 e:aZ w eb (.func (.func 179) #[] #[.pointer (some ⟨fb,0,none⟩),.pointer (some ⟨cb,0,none⟩),.pointer (some ⟨rb,0,none⟩),.pointer (some ⟨eb,0,none⟩)])
 ic:dB w bc cn cn.length
 ir:dB w br rn rn.length
 nf:fb≠lb
 nc:cb≠lb
 nr:rb≠lb
 ne:eb≠lb
 nbc:bc≠lb
 nbr:br≠lb
 lc:cn.length<=100000
 lr:rn.length<=100000
theorem RE.of{w:World}{lb:Nat}(h:RE w lb fb cb rb eb bc br cn rn)(k:∀b,b<w.heap.size->b≠lb->w'.heap[b]?=w.heap[b]?):RE w' lb fb cb rb eb bc br cn rn where
 f:=h.f.block (k _ h.f.lt h.nf)
 c:=h.c.block (k _ h.c.lt h.nc)
 r:=h.r.block (k _ h.r.lt h.nr)
 e:=h.e.block (k _ h.e.lt h.ne)
 ic:=h.ic.block (k _ h.ic.lt h.nbc)
 ir:=h.ir.block (k _ h.ir.lt h.nbr)
 nf:=h.nf
 nc:=h.nc
 nr:=h.nr
 ne:=h.ne
 nbc:=h.nbc
 nbr:=h.nbr
 lc:=h.lc
 lr:=h.lr
theorem RE.kb{w:World}{lb:Nat}(h:RE w lb fb cb rb eb bc br cn rn)(k:KB lb w w'):RE w' lb fb cb rb eb bc br cn rn:=h.of fun b hb hne=>k.k.block b hb (by simpa using hne)
theorem RE.go{w:World}{lb:Nat}(h:RE w lb fb cb rb eb bc br cn rn)(k:Below w.heap.size w w'):RE w' lb fb cb rb eb bc br cn rn:=h.of fun b hb _=>k.block b hb
structure S6(w W:World)(lb y r:Nat)(vs zs:List Value):Prop where
 kb:KB lb w W
 ll:lb<w.heap.size
 gy:w.heap.size<=y
 gr:w.heap.size<=r
 ly:y<W.heap.size
 lr:r<W.heap.size
 ne:r≠y
 cy:∀i u,vs[i]?=some u->W.cell? ⟨y,i,none⟩=some u/\W.frozen? ⟨y,i,none⟩=false
 cr:∀i u,zs[i]?=some u->W.cell? ⟨r,i,none⟩=some u/\W.frozen? ⟨r,i,none⟩=false
section
variable {w W W':World}{lb y r:Nat}{vs zs:List Value}
theorem S6.of(h:S6 w W lb y r vs zs)(kb:KB lb w W')(hs:W.heap.size<=W'.heap.size)(ky:W'.heap[y]?=W.heap[y]?)(kr:W'.heap[r]?=W.heap[r]?):S6 w W' lb y r vs zs where
 kb:=kb
 ll:=h.ll
 gy:=h.gy
 gr:=h.gr
 ly:=Nat.lt_of_lt_of_le h.ly hs
 lr:=Nat.lt_of_lt_of_le h.lr hs
 ne:=h.ne
 cy i u hu:=by have:=h.cy i u hu;unfold World.cell? World.frozen? at*;simp only[ky];exact this
 cr i u hu:=by have:=h.cr i u hu;unfold World.cell? World.frozen? at*;simp only[kr];exact this
theorem S6.call(h:S6 w W lb y r vs zs)(k:KB lb W W'):S6 w W' lb y r vs zs:=h.of (h.kb.trans k) k.k.size (k.k.block _ h.ly (by have:=h.ll;have:=h.gy;simp;omega)) (k.k.block _ h.lr (by have:=h.ll;have:=h.gr;simp;omega))
theorem S6.go(h:S6 w W lb y r vs zs)(k:Below W.heap.size W W'):S6 w W' lb y r vs zs:=h.of (h.kb.go k (by have:=h.ll;have:=h.kb.k.size;omega)) k.size (k.block _ h.ly) (k.block _ h.lr)
theorem S6.row(h:S6 w W lb y r vs zs){g:Nat}(k:Keeps [g] W W')(hb:Below lb W W')(hg:w.heap.size<=g)(ny:y≠g)(nr:r≠g):S6 w W' lb y r vs zs:=h.of ⟨⟨Nat.le_trans h.kb.k.size k.size,fun b hb' hm=>(k.block b (Nat.lt_of_lt_of_le hb' h.kb.k.size) (by simp;omega)).trans (h.kb.k.block b hb' hm)⟩,h.kb.bl.trans hb⟩ k.size (k.block _ h.ly (by simpa using ny)) (k.block _ h.lr (by simpa using nr))
theorem S6.put(h:S6 w W lb y r vs zs)(hj:vs[j]?=some u0)(u:Value):S6 w (W.setCell ⟨y,j,none⟩ u) lb y r (vs.set j u) zs/\Keeps [y] W (W.setCell ⟨y,j,none⟩ u):=by
 have kp:=(Keeps.refl [y] W).setCell (p:=⟨y,j,none⟩) (.inl (by simp)) u;have hc:(W.setCell ⟨y,j,none⟩ u).cell? ⟨y,j,none⟩=some u:=cZ (h.cy j u0 hj).1;have ho:∀i,i≠j->(W.setCell ⟨y,j,none⟩ u).cell? ⟨y,i,none⟩=W.cell? ⟨y,i,none⟩:=fun i hi=>by simp[go_sem,hi,fun e:j=i=>hi e.symm]
 have hf:∀i,(W.setCell ⟨y,j,none⟩ u).frozen? ⟨y,i,none⟩=W.frozen? ⟨y,i,none⟩:=fun i=>by simp[go_sem]
 have hb:Below lb W (W.setCell ⟨y,j,none⟩ u):=(Below.refl lb W).setCell (p:=⟨y,j,none⟩) (by have:=h.ll;have:=h.gy;simp;omega) u;generalize W.setCell ⟨y,j,none⟩ u=W' at*
 refine⟨⟨⟨⟨Nat.le_trans h.kb.k.size kp.size,fun b hb' hm=>(kp.block b (Nat.lt_of_lt_of_le hb' h.kb.k.size) (by have:=h.gy;simp;omega)).trans (h.kb.k.block b hb' hm)⟩,h.kb.bl.trans hb⟩,h.ll,h.gy,h.gr,Nat.lt_of_lt_of_le h.ly kp.size,Nat.lt_of_lt_of_le h.lr kp.size,h.ne,fun i v hi=>?_,fun i v hi=>?_⟩,kp⟩
 ·have hl:=(List.getElem?_eq_some_iff.1 hj).1;by_cases e:i=j;·subst e;rw[List.getElem?_set_self hl]at hi;cases hi;exact⟨hc,(hf i).trans (h.cy i u0 hj).2⟩
  rw[List.getElem?_set_ne (fun e'=>e e'.symm)]at hi;exact⟨(ho i e).trans (h.cy i v hi).1,(hf i).trans (h.cy i v hi).2⟩
 have hk:=kp.block r h.lr (by have:=h.ne;simpa using this);have:=h.cr i v hi;unfold World.cell? World.frozen? at*;simp only[hk];exact this
end
theorem bD.spare{α:Type} [kJ α] {e:TypeId}{w:World}{M M':List Nat}{base:Nat}{v:Value}{n:Nat}{xs:List α}(h:bD α e w M base v n xs)(k:Keeps M' w w')(hs:∀q,q∈M'->q∈M)(hg:∀q,q∈M'->q<base):bD α e w' M base v n xs:=by obtain⟨cs,h1,h2⟩:=h.ex;refine⟨h.len,cs,qp h1 (fun q hq hk=>k.block q hk (fun hm=>by have:=(h.lt hq).1;have:=hg q hm;omega)),fun i x hx=>?_⟩;exact aeJ
theorem KB.drew'(b:Nat)(w:World):KB b w w.drew:=⟨(Keeps.refl _ w).drew,(Below.refl b w).drew⟩
theorem aZ.kb{w:World}{g:Nat}{v:Value}(h:aZ w b v)(k:Keeps [g] w w')(hne:b≠g):aZ w' b v:=h.block (k.block b h.lt (by simpa using hne))
theorem jB{w:World}{g o:Nat}{v:Value}(h:w.cell? ⟨g,o,none⟩=some v/\w.frozen? ⟨g,o,none⟩=false)(hb:w'.heap[g]?=w.heap[g]?):w'.cell? ⟨g,o,none⟩=some v/\w'.frozen? ⟨g,o,none⟩=false:=by
 unfold World.cell? World.frozen? at*
 simp only[hb];exact h
structure L6(w W:World)(lb y r b0:Nat)(M:List Nat)(vs zs:List Value)(v:Value)(m:Nat)(l:List aU)(lo:Bool):Prop where
 s:S6 w W lb y r vs zs
 own:bD aU 87 W (y::r::M) b0 v m l
 lo:aZ W lb (.bool lo)
 by_:y<b0
 br_:r<b0
 bm:∀q,q∈M->q<b0
theorem Uu{a b:Int}{p q:Bool}(h:RowKit.Hid (a=b/\p=q)):∃N2 lo2,RowKit.Hid (a=N2/\p=lo2)/\b=N2/\q=lo2:=⟨b,q,h,rfl,rfl⟩
section
variable {w W w2 w3:World}{lb y r b0:Nat}{M:List Nat}{vs zs:List Value}{A:Option Addr}{m c:Nat}{l:List aU}{lo lo':Bool}{v:Value}
theorem S6.sl(h:S6 w W lb y r vs zs)(hq:Sl aU w M A m c l)(hM:lb∈M):Sl aU W (y::r::M) A m c l:=((hq.more h.gr).more h.gy).keep (h.kb.k.mono (fun q hq=>by rw[List.mem_singleton]at hq;subst hq;simp[hM]))
theorem fnd(hs:S6 w W lb y r vs zs)(k:KB lb W w2)(hv:aZ w2 lb (.bool lo))(hj:vs[j]?=some u0)(u:Value):
 S6 w (w2.setCell ⟨y,j,none⟩ u) lb y r (vs.set j u) zs/\aZ (w2.setCell ⟨y,j,none⟩ u) lb (.bool lo):=by
 obtain⟨s2,k2⟩:=(hs.call k).put hj u;exact⟨s2,hv.kb k2 (by have:=hs.ll;have:=hs.gy;omega)⟩
theorem cln(hs:S6 w W lb y r vs zs)(hv:aZ W lb (.bool lo))(hM:b_ M w)(own:bD aU 87 w3 (y::r::M) W.heap.size v m l)(hb:Below W.heap.size W w3)(hj:vs[j]?=some u0)(u:Value):
 ∃b0 vs',vs.set j u=vs'/\L6 w (w3.setCell ⟨y,j,none⟩ u) lb y r b0 M vs' zs v m l lo:=by
 obtain⟨s2,k2⟩:=(hs.go hb).put hj u;have Yp:lb<W.heap.size:=hv.lt;refine⟨W.heap.size,_,rfl,s2,own.spare k2 (fun q hq=>by rw[List.mem_singleton]at hq;subst hq;simp) (fun q hq=>by rw[List.mem_singleton]at hq;subst hq;exact hs.ly),(hv.block (hb.block _ Yp)).kb k2 (by have:=hs.ll;have:=hs.gy;omega),hs.ly,hs.lr,fun q hq=>Nat.lt_of_lt_of_le (hM q hq) hs.kb.k.size⟩
theorem L6.fin{B:Option Addr}{d:Nat}(h:L6 w W lb y r b0 M vs zs (.slice B m d) m l lo)(hm:m<=100000)(us:List Value){W':World}(hW:fM W r 0 us=W'):Sl aU W' M B m d l/\KB lb w W'/\aZ W' lb (.bool lo):=by
 have k3:Keeps [r] W W':=by rw[<-hW];exact qV (w:=W) us 0 W
 have hl:=h.s.ll;have hg:=h.s.gr;have hbl:Below lb W W':=by rw[<-hW];exact lq (by omega) us _ (Below.refl lb W)
 obtain⟨A,c,e,hs⟩:=h.own.sl (by omega) (fun q hq=>by
  rcases List.mem_cons.1 hq with rfl|hq;·exact h.by_
  rcases List.mem_cons.1 hq with rfl|hq;·exact h.br_
  exact h.bm q hq)
 cases e;exact⟨(hs.keep (k3.mono (fun q hq=>by rw[List.mem_singleton]at hq;subst hq;simp))).less (fun q hq=>by simp[hq]),⟨⟨Nat.le_trans h.s.kb.k.size k3.size,fun b hb' hm'=>(k3.block b (Nat.lt_of_lt_of_le hb' h.s.kb.k.size) (by simp;omega)).trans (h.s.kb.k.block b hb' hm')⟩,h.s.kb.bl.trans hbl⟩,h.lo.kb k3 (by omega)⟩
theorem CU(cn rn:List ByteArray){l:List aU}(h:l.length=k):(l.take k).map (lC cn rn)++l.drop k=E5 cn rn l:=by rw[List.take_of_length_le (by omega),List.drop_of_length_le (by omega),List.append_nil,xH]
theorem L6.step{g cap:Nat}(h:L6 w W lb y r b0 M vs zs (.slice (some ⟨g,0,none⟩) m cap) m l lo)(kb:KB lb W w2)(PZ:lb∈M)(hv:aZ w2 lb (.bool lo'))(hk:k<m)(hr:kH w2 (g::y::r::M) x us)(hw':fM w2 g (k*5) us=w'):
 L6 w w' lb y r b0 M vs zs (.slice (some ⟨g,0,none⟩) m cap) m (l.set k x) lo':=by
 have hlt:=(h.own.lt (k:=g) rfl).1;have o2:=h.own.spare kb.k (fun q hq=>by rw[List.mem_singleton]at hq;subst hq;simp[PZ]) (fun q hq=>by rw[List.mem_singleton]at hq;subst hq;exact h.bm _ PZ);obtain⟨o3,k3⟩:=o2.abz hk hr hw';have hlb:lb<b0:=h.bm _ PZ;have hbl:Below lb w2 w':=by rw[<-hw'];exact lq (by omega) us _ (Below.refl lb w2)
 have:=h.by_;have:=h.br_;have:=h.s.gy;exact⟨(h.s.call kb).row k3 hbl (by omega) (by omega) (by omega),o3,hv.kb k3 (by omega),h.by_,h.br_,h.bm⟩
end
def Yr(lb fb cb rb eb bc br:Nat)(cn rn:List ByteArray)(x:aU):Prop:=∀{M:List Nat}{A:Option Addr}{m c:Nat}{lo:Bool}{w:World},Sl aU w M A m c x.l->Ut x->nodes x<=100000->RE w lb fb cb rb eb bc br cn rn->aZ w lb (.bool lo)->lb∈M->b_ M w->Calls prog 179 #[.agg #[.int .i64 x.kind,.string x.name,.int .i64 x.n,.int .i64 x.d,.slice A m c],.pointer (some ⟨fb,0,none⟩),.pointer (some ⟨cb,0,none⟩),.pointer (some ⟨rb,0,none⟩),.pointer (some ⟨eb,0,none⟩)] w fun e w'=>∃B m' d',e=.returned (.agg #[.int .i64 x.kind,.string x.name,.int .i64 (qW cn rn x.kind x.name x.n),.int .i64 x.d,.slice B m' d'])/\Sl aU w' M B m' d' (E5 cn rn x.l)/\KB lb w w'/\aZ w' lb (.bool (lo||iV cn rn x))
set_option maxHeartbeats 16000000 in
theorem Uw{lb:Nat}(x:aU)(ih:∀y,y∈x.l->Yr lb fb cb rb eb bc br cn rn y)(hk:x.kind=2):Yr lb fb cb rb eb bc br cn rn x:=by
 intro M A m c lo w hs hok hnd hre hlo PZ hM;refine wid ?_;have ZA:=gV x;have hlen:=hs.len;have ZB:=jX x.l;have XD:m<=100000:=by omega
 have xJ:=NS hok;have J_:=xG cn rn x;obtain⟨l,hxl⟩:=aC x.l;rw[hxl]at hs ZA hlen ZB xJ J_ ih;obtain⟨kd,hkd⟩:=aC x.kind;obtain⟨nm,hnm⟩:=aC x.name;obtain⟨xn,hxn⟩:=aC x.n;obtain⟨xd,hxd⟩:=aC x.d;obtain⟨LE,CV⟩:=aC (iV cn rn x);rw[hkd,hnm]at J_;rw[CV]at J_;rw[hnm]at xJ;rw[hkd,hnm,hxn,hxd,hxl,CV];rw[hkd]at hk;have HN:=h_ (show dh l<=100000 by omega) hlen XD J_;have IH:=Hd ih;have Ko:=Hd xJ;clear hkd hnm hxn hxd CV J_ hxl ih hok hnd ZA hlen ZB xJ XD;obtain⟨W1,hW1,F1⟩:=nam (((Fr.nil w).a w.heap.size [.int .i64 kd,.string nm,.int .i64 xn,.int .i64 xd,.slice A m c] 87).a (w.heap.size+1) [.int .i64 0,.string ⟨#[]⟩,.int .i64 0,.int .i64 0,.slice none 0 0] 87);have hll:=hlo.lt;have S1:S6 w W1 lb w.heap.size (w.heap.size+1) [.int .i64 kd,.string nm,.int .i64 xn,.int .i64 xd,.slice A m c] [.int .i64 0,.string ⟨#[]⟩,.int .i64 0,.int .i64 0,.slice none 0 0]:=⟨⟨Keeps.of_below F1.bl _,F1.bl.mono (Nat.le_of_lt hll)⟩,hll,Nat.le_refl _,Nat.le_succ _,F1.mJ 0,F1.mJ 1,by omega,fun i u hu=>F1.at_ _ _ (by simp) i u hu,fun i u hu=>F1.at_ _ _ (by simp) i u hu⟩;have V1:aZ W1 lb (.bool lo):=hlo.block (F1.bl.block lb hll);have R1:=hre.kb S1.kb;have rf:=R1.f.1;have rc:=R1.c.1;have rr:=R1.r.1;obtain⟨c0,-⟩:=S1.cy 0 _ rfl;obtain⟨c1,-⟩:=S1.cy 1 _ rfl;obtain⟨c2,d2⟩:=S1.cy 2 _ rfl;obtain⟨c4,d4⟩:=S1.cy 4 _ rfl;have HS:=Hd2 S1 V1;have HR:=Hd2 hre R1;have HM:=fB hs PZ hM;clear S1 V1 R1 F1 hre hlo hs hM PZ;subst hk;refine ent func179 rfl ntmps179 ?_
 gi_wp2_with (first
  |(refine Cl 180 (vK (HA.out.1.sl HM.out.1 HM.out.2.1) HN.out.2.2.1) ?_;rintro e w3 ⟨v,rfl,own,hb3⟩;obtain⟨B,d,rfl,-⟩:=own.sl (by have:=HN.out.2.2.1;omega) (fun q hq=>by
     rcases List.mem_cons.1 hq with rfl|hq;·exact HA.out.1.ly
     rcases List.mem_cons.1 hq with rfl|hq;·exact HA.out.1.lr
     exact Nat.lt_of_lt_of_le (HM.out.2.2 q hq) HA.out.1.kb.k.size)
    obtain⟨b0,vs,hvs,hL⟩:=cln HA.out.1 HA.out.2 HM.out.2.2 own hb3 (j:=4) rfl (.slice B m d);obtain⟨N2,lo2,ZE,hb2,hq2⟩:=Uu HNN;rw[hq2]at hL;simp only[List.set_cons_succ,List.set_cons_zero,hb2]at hvs;have HL:=Hd hL;have ZF:=Hd hvs;obtain⟨-,e4⟩:=(HA.out.1.go hb3).cy 4 _ rfl;obtain⟨g4,-⟩:=(HA.out.1.go hb3).cy 4 _ rfl;clear hL hvs own hb3 hb2 hq2)
  |(refine Cl 178 (xE HR.out.2.ic rfl Ko.out.1 HS.out.2) ?_;rintro e w2 ⟨rfl,kb2,v2⟩;have HA:=Hd (fnd HS.out.1 kb2 v2 (j:=2) rfl (.int .i64 ((xA cn nm:Nat):Int)));have HNN:=Hd2 (show qW cn rn 2 nm xn=((xA cn nm:Nat):Int) by simp[qW]) (show(lo||sO cn rn 2 nm)=(lo||xB cn nm) by simp[sO]);obtain⟨g2,e2⟩:=(HS.out.1.call kb2).cy 2 _ rfl;obtain⟨g4,e4⟩:=(HS.out.1.call kb2).cy 4 _ rfl;clear kb2 v2)
  |fail)
 have HB0:=Hd (show L6 w _ lb w.heap.size (w.heap.size+1) b0 M vs [.int .i64 0,.string ⟨#[]⟩,.int .i64 0,.int .i64 0,.slice none 0 0] (.slice B m d) m ((l.take 0).map (lC cn rn)++l.drop 0) (lo2||(l.take 0).any (iV cn rn)) by simpa using HL.out);gi_loopw[7,33] (fun _ i wr=>∃k:Nat,k<=m/\i=.int .i64 k/\Hid (L6 w wr lb w.heap.size (w.heap.size+1) b0 M vs [.int .i64 0,.string ⟨#[]⟩,.int .i64 0,.int .i64 0,.slice none 0 0] (.slice B m d) m ((l.take k).map (lC cn rn)++l.drop k) (lo2||(l.take k).any (iV cn rn)))) (fun _ i _=>m-(intOf i).toNat);case atStart=>exact⟨0,Nat.zero_le _,rfl,HB0⟩
 case round=>
  obtain⟨k,hk,rfl,hL⟩:=hrel;obtain⟨lk,hlk⟩:=aC (lo2||(l.take k).any (iV cn rn));rw[hlk]at hL;have Ux:=Hd hlk;clear hlk;by_cases hlt:k<m;·exact acV
  ·have hkm:k=m:=by omega
   clear hk hlt;subst hkm;have hv:=ZF.out;subst hv;have S:=hL.out.s;have y0:=(S.cy 0 _ rfl).1;have y1:=(S.cy 1 _ rfl).1;have y2:=(S.cy 2 _ rfl).1;have y3:=(S.cy 3 _ rfl).1;have y4:=(S.cy 4 _ rfl).1;obtain⟨z0,f0⟩:=S.cr 0 _ rfl;obtain⟨z1,f1⟩:=S.cr 1 _ rfl;obtain⟨z2,f2⟩:=S.cr 2 _ rfl;obtain⟨z3,f3⟩:=S.cr 3 _ rfl;obtain⟨z4,f4⟩:=S.cr 4 _ rfl;clear S;gi_wp2;have hfin:=hL.out.fin HN.out.2.2.1 [.int .i64 2,.string nm,.int .i64 N2,.int .i64 xd,.slice B k d] rfl;rw[CU cn rn HN.out.2.1,<-Ux.out,List.take_of_length_le (by rw[HN.out.2.1];exact Nat.le_refl _),<-nP,<-ZE.out.2,Bool.or_assoc,<-HN.out.2.2.2]at hfin;exact⟨rfl,.agg #[.int .i64 2,.string nm,.int .i64 N2,.int .i64 xd,.slice B k d],by simp[results,go_sem,z0,z1,z2,z3,z4],B,k,d,by rw[ZE.out.1],hfin⟩
set_option maxHeartbeats 16000000 in
theorem Q_{lb:Nat}(x:aU)(ih:∀y,y∈x.l->Yr lb fb cb rb eb bc br cn rn y)(hk:x.kind=5):Yr lb fb cb rb eb bc br cn rn x:=by
 intro M A m c lo w hs hok hnd hre hlo PZ hM;refine wid ?_;have ZA:=gV x;have hlen:=hs.len;have ZB:=jX x.l;have XD:m<=100000:=by omega
 have xJ:=NS hok;have J_:=xG cn rn x;obtain⟨l,hxl⟩:=aC x.l;rw[hxl]at hs ZA hlen ZB xJ J_ ih;obtain⟨kd,hkd⟩:=aC x.kind;obtain⟨nm,hnm⟩:=aC x.name;obtain⟨xn,hxn⟩:=aC x.n;obtain⟨xd,hxd⟩:=aC x.d;obtain⟨LE,CV⟩:=aC (iV cn rn x);rw[hkd,hnm]at J_;rw[CV]at J_;rw[hnm]at xJ;rw[hkd,hnm,hxn,hxd,hxl,CV];rw[hkd]at hk;have HN:=h_ (show dh l<=100000 by omega) hlen XD J_;have IH:=Hd ih;have Ko:=Hd xJ;clear hkd hnm hxn hxd CV J_ hxl ih hok hnd ZA hlen ZB xJ XD;obtain⟨W1,hW1,F1⟩:=nam (((Fr.nil w).a w.heap.size [.int .i64 kd,.string nm,.int .i64 xn,.int .i64 xd,.slice A m c] 87).a (w.heap.size+1) [.int .i64 0,.string ⟨#[]⟩,.int .i64 0,.int .i64 0,.slice none 0 0] 87);have hll:=hlo.lt;have S1:S6 w W1 lb w.heap.size (w.heap.size+1) [.int .i64 kd,.string nm,.int .i64 xn,.int .i64 xd,.slice A m c] [.int .i64 0,.string ⟨#[]⟩,.int .i64 0,.int .i64 0,.slice none 0 0]:=⟨⟨Keeps.of_below F1.bl _,F1.bl.mono (Nat.le_of_lt hll)⟩,hll,Nat.le_refl _,Nat.le_succ _,F1.mJ 0,F1.mJ 1,by omega,fun i u hu=>F1.at_ _ _ (by simp) i u hu,fun i u hu=>F1.at_ _ _ (by simp) i u hu⟩;have V1:aZ W1 lb (.bool lo):=hlo.block (F1.bl.block lb hll);have R1:=hre.kb S1.kb;have rf:=R1.f.1;have rc:=R1.c.1;have rr:=R1.r.1;obtain⟨c0,-⟩:=S1.cy 0 _ rfl;obtain⟨c1,-⟩:=S1.cy 1 _ rfl;obtain⟨c2,d2⟩:=S1.cy 2 _ rfl;obtain⟨c4,d4⟩:=S1.cy 4 _ rfl;have HS:=Hd2 S1 V1;have HR:=Hd2 hre R1;have HM:=fB hs PZ hM;clear S1 V1 R1 F1 hre hlo hs hM PZ;subst hk;refine ent func179 rfl ntmps179 ?_
 gi_wp2_with (first
  |(refine Cl 180 (vK (HA.out.1.sl HM.out.1 HM.out.2.1) HN.out.2.2.1) ?_;rintro e w3 ⟨v,rfl,own,hb3⟩;obtain⟨B,d,rfl,-⟩:=own.sl (by have:=HN.out.2.2.1;omega) (fun q hq=>by
     rcases List.mem_cons.1 hq with rfl|hq;·exact HA.out.1.ly
     rcases List.mem_cons.1 hq with rfl|hq;·exact HA.out.1.lr
     exact Nat.lt_of_lt_of_le (HM.out.2.2 q hq) HA.out.1.kb.k.size)
    obtain⟨b0,vs,hvs,hL⟩:=cln HA.out.1 HA.out.2 HM.out.2.2 own hb3 (j:=4) rfl (.slice B m d);obtain⟨N2,lo2,ZE,hb2,hq2⟩:=Uu HNN;rw[hq2]at hL;simp only[List.set_cons_succ,List.set_cons_zero,hb2]at hvs;have HL:=Hd hL;have ZF:=Hd hvs;obtain⟨-,e4⟩:=(HA.out.1.go hb3).cy 4 _ rfl;obtain⟨g4,-⟩:=(HA.out.1.go hb3).cy 4 _ rfl;clear hL hvs own hb3 hb2 hq2)
  |(refine Cl 178 (xE HR.out.2.ir rfl Ko.out.1 HS.out.2) ?_;rintro e w2 ⟨rfl,kb2,v2⟩;have HA:=Hd (fnd HS.out.1 kb2 v2 (j:=2) rfl (.int .i64 ((xA rn nm:Nat):Int)));have HNN:=Hd2 (show qW cn rn 5 nm xn=((xA rn nm:Nat):Int) by simp[qW]) (show(lo||sO cn rn 5 nm)=(lo||xB rn nm) by simp[sO]);obtain⟨g2,e2⟩:=(HS.out.1.call kb2).cy 2 _ rfl;obtain⟨g4,e4⟩:=(HS.out.1.call kb2).cy 4 _ rfl;clear kb2 v2)
  |fail)
 have HB0:=Hd (show L6 w _ lb w.heap.size (w.heap.size+1) b0 M vs [.int .i64 0,.string ⟨#[]⟩,.int .i64 0,.int .i64 0,.slice none 0 0] (.slice B m d) m ((l.take 0).map (lC cn rn)++l.drop 0) (lo2||(l.take 0).any (iV cn rn)) by simpa using HL.out);gi_loopw[7,33] (fun _ i wr=>∃k:Nat,k<=m/\i=.int .i64 k/\Hid (L6 w wr lb w.heap.size (w.heap.size+1) b0 M vs [.int .i64 0,.string ⟨#[]⟩,.int .i64 0,.int .i64 0,.slice none 0 0] (.slice B m d) m ((l.take k).map (lC cn rn)++l.drop k) (lo2||(l.take k).any (iV cn rn)))) (fun _ i _=>m-(intOf i).toNat);case atStart=>exact⟨0,Nat.zero_le _,rfl,HB0⟩
 case round=>
  obtain⟨k,hk,rfl,hL⟩:=hrel;obtain⟨lk,hlk⟩:=aC (lo2||(l.take k).any (iV cn rn));rw[hlk]at hL;have Ux:=Hd hlk;clear hlk;by_cases hlt:k<m;·exact acV
  ·have hkm:k=m:=by omega
   clear hk hlt;subst hkm;have hv:=ZF.out;subst hv;have S:=hL.out.s;have y0:=(S.cy 0 _ rfl).1;have y1:=(S.cy 1 _ rfl).1;have y2:=(S.cy 2 _ rfl).1;have y3:=(S.cy 3 _ rfl).1;have y4:=(S.cy 4 _ rfl).1;obtain⟨z0,f0⟩:=S.cr 0 _ rfl;obtain⟨z1,f1⟩:=S.cr 1 _ rfl;obtain⟨z2,f2⟩:=S.cr 2 _ rfl;obtain⟨z3,f3⟩:=S.cr 3 _ rfl;obtain⟨z4,f4⟩:=S.cr 4 _ rfl;clear S;gi_wp2;have hfin:=hL.out.fin HN.out.2.2.1 [.int .i64 5,.string nm,.int .i64 N2,.int .i64 xd,.slice B k d] rfl;rw[CU cn rn HN.out.2.1,<-Ux.out,List.take_of_length_le (by rw[HN.out.2.1];exact Nat.le_refl _),<-nP,<-ZE.out.2,Bool.or_assoc,<-HN.out.2.2.2]at hfin;exact⟨rfl,.agg #[.int .i64 5,.string nm,.int .i64 N2,.int .i64 xd,.slice B k d],by simp[results,go_sem,z0,z1,z2,z3,z4],B,k,d,by rw[ZE.out.1],hfin⟩
set_option maxHeartbeats 16000000 in
theorem Uz{lb:Nat}(x:aU)(ih:∀y,y∈x.l->Yr lb fb cb rb eb bc br cn rn y)(hk:¬x.kind=2/\¬x.kind=5):Yr lb fb cb rb eb bc br cn rn x:=by
 intro M A m c lo w hs hok hnd hre hlo PZ hM;refine wid ?_;have ZA:=gV x;have hlen:=hs.len;have ZB:=jX x.l;have XD:m<=100000:=by omega
 have xJ:=NS hok;have J_:=xG cn rn x;obtain⟨l,hxl⟩:=aC x.l;rw[hxl]at hs ZA hlen ZB xJ J_ ih;obtain⟨kd,hkd⟩:=aC x.kind;obtain⟨nm,hnm⟩:=aC x.name;obtain⟨xn,hxn⟩:=aC x.n;obtain⟨xd,hxd⟩:=aC x.d;obtain⟨LE,CV⟩:=aC (iV cn rn x);rw[hkd,hnm]at J_;rw[CV]at J_;rw[hnm]at xJ;rw[hkd,hnm,hxn,hxd,hxl,CV];rw[hkd]at hk;have HN:=h_ (show dh l<=100000 by omega) hlen XD J_;have IH:=Hd ih;have Ko:=Hd xJ;clear hkd hnm hxn hxd CV J_ hxl ih hok hnd ZA hlen ZB xJ XD;obtain⟨W1,hW1,F1⟩:=nam (((Fr.nil w).a w.heap.size [.int .i64 kd,.string nm,.int .i64 xn,.int .i64 xd,.slice A m c] 87).a (w.heap.size+1) [.int .i64 0,.string ⟨#[]⟩,.int .i64 0,.int .i64 0,.slice none 0 0] 87);have hll:=hlo.lt;have S1:S6 w W1 lb w.heap.size (w.heap.size+1) [.int .i64 kd,.string nm,.int .i64 xn,.int .i64 xd,.slice A m c] [.int .i64 0,.string ⟨#[]⟩,.int .i64 0,.int .i64 0,.slice none 0 0]:=⟨⟨Keeps.of_below F1.bl _,F1.bl.mono (Nat.le_of_lt hll)⟩,hll,Nat.le_refl _,Nat.le_succ _,F1.mJ 0,F1.mJ 1,by omega,fun i u hu=>F1.at_ _ _ (by simp) i u hu,fun i u hu=>F1.at_ _ _ (by simp) i u hu⟩;have V1:aZ W1 lb (.bool lo):=hlo.block (F1.bl.block lb hll);have R1:=hre.kb S1.kb;have rf:=R1.f.1;have rc:=R1.c.1;have rr:=R1.r.1;obtain⟨c0,-⟩:=S1.cy 0 _ rfl;obtain⟨c1,-⟩:=S1.cy 1 _ rfl;obtain⟨c2,d2⟩:=S1.cy 2 _ rfl;obtain⟨c4,d4⟩:=S1.cy 4 _ rfl;have HS:=Hd2 S1 V1;have HR:=Hd2 hre R1;have HM:=fB hs PZ hM;clear S1 V1 R1 F1 hre hlo hs hM PZ;obtain⟨k2,k5⟩:=hk;have HNN:=Hd2 (show qW cn rn kd nm xn=xn by unfold qW;rw[if_neg k2,if_neg k5]) (show(lo||sO cn rn kd nm)=lo by unfold sO;rw[if_neg k2,if_neg k5];simp);have HA:=HS;refine ent func179 rfl ntmps179 ?_
 gi_wp2_with (first
  |(refine Cl 180 (vK (HA.out.1.sl HM.out.1 HM.out.2.1) HN.out.2.2.1) ?_;rintro e w3 ⟨v,rfl,own,hb3⟩;obtain⟨B,d,rfl,-⟩:=own.sl (by have:=HN.out.2.2.1;omega) (fun q hq=>by
     rcases List.mem_cons.1 hq with rfl|hq;·exact HA.out.1.ly
     rcases List.mem_cons.1 hq with rfl|hq;·exact HA.out.1.lr
     exact Nat.lt_of_lt_of_le (HM.out.2.2 q hq) HA.out.1.kb.k.size)
    obtain⟨b0,vs,hvs,hL⟩:=cln HA.out.1 HA.out.2 HM.out.2.2 own hb3 (j:=4) rfl (.slice B m d);obtain⟨N2,lo2,ZE,hb2,hq2⟩:=Uu HNN;rw[hq2]at hL;simp only[List.set_cons_succ,List.set_cons_zero,hb2]at hvs;have HL:=Hd hL;have ZF:=Hd hvs;obtain⟨-,e4⟩:=(HA.out.1.go hb3).cy 4 _ rfl;obtain⟨g4,-⟩:=(HA.out.1.go hb3).cy 4 _ rfl;clear hL hvs own hb3 hb2 hq2)
  |fail
  |fail)
 have HB0:=Hd (show L6 w _ lb w.heap.size (w.heap.size+1) b0 M vs [.int .i64 0,.string ⟨#[]⟩,.int .i64 0,.int .i64 0,.slice none 0 0] (.slice B m d) m ((l.take 0).map (lC cn rn)++l.drop 0) (lo2||(l.take 0).any (iV cn rn)) by simpa using HL.out);gi_loopw[7,33] (fun _ i wr=>∃k:Nat,k<=m/\i=.int .i64 k/\Hid (L6 w wr lb w.heap.size (w.heap.size+1) b0 M vs [.int .i64 0,.string ⟨#[]⟩,.int .i64 0,.int .i64 0,.slice none 0 0] (.slice B m d) m ((l.take k).map (lC cn rn)++l.drop k) (lo2||(l.take k).any (iV cn rn)))) (fun _ i _=>m-(intOf i).toNat);case atStart=>exact⟨0,Nat.zero_le _,rfl,HB0⟩
 case round=>
  obtain⟨k,hk,rfl,hL⟩:=hrel;obtain⟨lk,hlk⟩:=aC (lo2||(l.take k).any (iV cn rn));rw[hlk]at hL;have Ux:=Hd hlk;clear hlk;by_cases hlt:k<m;·exact acV
  ·have hkm:k=m:=by omega
   clear hk hlt;subst hkm;have hv:=ZF.out;subst hv;have S:=hL.out.s;have y0:=(S.cy 0 _ rfl).1;have y1:=(S.cy 1 _ rfl).1;have y2:=(S.cy 2 _ rfl).1;have y3:=(S.cy 3 _ rfl).1;have y4:=(S.cy 4 _ rfl).1;obtain⟨z0,f0⟩:=S.cr 0 _ rfl;obtain⟨z1,f1⟩:=S.cr 1 _ rfl;obtain⟨z2,f2⟩:=S.cr 2 _ rfl;obtain⟨z3,f3⟩:=S.cr 3 _ rfl;obtain⟨z4,f4⟩:=S.cr 4 _ rfl;clear S;gi_wp2;have hfin:=hL.out.fin HN.out.2.2.1 [.int .i64 kd,.string nm,.int .i64 N2,.int .i64 xd,.slice B k d] rfl;rw[CU cn rn HN.out.2.1,<-Ux.out,List.take_of_length_le (by rw[HN.out.2.1];exact Nat.le_refl _),<-nP,<-ZE.out.2,Bool.or_assoc,<-HN.out.2.2.2]at hfin;exact⟨rfl,.agg #[.int .i64 kd,.string nm,.int .i64 N2,.int .i64 xd,.slice B k d],by simp[results,go_sem,z0,z1,z2,z3,z4],B,k,d,by rw[ZE.out.1],hfin⟩
theorem UA{lb:Nat}(x:aU):Yr lb fb cb rb eb bc br cn rn x:=by
 induction x using iY with
 |_ x ih=>
  by_cases h2:x.kind=2;·exact Uw x ih h2
  ·by_cases h5:x.kind=5;·exact Q_ x ih h5
   exact Uz x ih ⟨h2,h5⟩
end Go.Proofs.YtefnknhjlejalaaGreatDoor
