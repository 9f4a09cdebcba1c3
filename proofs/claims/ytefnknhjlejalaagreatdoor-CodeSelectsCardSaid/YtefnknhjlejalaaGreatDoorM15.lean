/- Lemmas and walks; no statement is proved here. -/
import Derived.Test.YtefnknhjlejalaaGreatDoorM14
set_option linter.unusedVariables false
set_option linter.unusedSimpArgs false
set_option maxRecDepth 20000
set_option maxHeartbeats 6000000
namespace Go.Proofs.YtefnknhjlejalaaGreatDoor
open Go.Proofs.Tryz Go.RowKit
theorem adz{p:Prop}(h:p:=by obtain⟨es,h1,h2⟩:=h k x hk;refine⟨es,Rep.keep h1 (Keeps.of_below hb M),fun hm=>by have:=hM _ hm;omega,fun j u hu=>?_⟩;have h3:=h2 j u hu;have hn:=heap_alloc_new w (.cells cs.toArray e);generalize w.alloc (.cells cs.toArray e)=W2 at hn |-;generalize w.heap.size=q at hn |-;simp[World.cell?,hn,h3]):p:=h
theorem aea{p:Prop}(h:p:=by rw[<-MX];exact((hM.le F1.bl.size).cons (by have:=F1.sz;omega)).cons (by have:=F1.sz;omega)):p:=h
theorem aeD{p:Prop}(h:p:=by exact(((Below.refl W.heap.size W).alloc (Nat.le_refl _) _).grown r3 (by simp) (fun k hk=>by cases hk;exact Nat.le_refl _))):p:=h
theorem aeM{p:Prop}(h:p:=by cases hk;exact⟨_,oI h2.neg h2.sl,fun j u hu=>by match j,hu with|0,hu=>exact hu|1,hu=>exact hu⟩):p:=h
theorem aeN{p:Prop}(h:p:=by cases hk;exact⟨_,oI h1.neg h1.sl,fun j u hu=>by match j,hu with|0,hu=>exact hu|1,hu=>exact hu⟩):p:=h
theorem aeO{p:Prop}(h:p:=by cases hk;exact⟨_,oI h4.neg h4.sl,fun j u hu=>by match j,hu with|0,hu=>exact hu|1,hu=>exact hu⟩):p:=h
theorem aeP{p:Prop}(h:p:=by cases hk;exact⟨_,oI h3.neg h3.sl,fun j u hu=>by match j,hu with|0,hu=>exact hu|1,hu=>exact hu⟩):p:=h
theorem aeV{p:Prop}(h:p:=by
 match j,hu with
 |0,hu=>exact hu
 |1,hu=>exact hu
 |2,hu=>exact hu
 |3,hu=>exact hu):p:=h
variable {a y op b z z1 z2 z3 z4:Int}{s m d base n c nr cr j k n1 c1 m1 d1 n2 c2 m2 d2 n3 c3 n4 c4:Nat}{v u1 v1 u2 v2 va vb:Value}{A O B A1 B1 A2 B2 A3 A4:Option Addr}{W W':World}{l:List Nat}{q p1 q1 p2 q2 q3 q4 p:Bool}{x:RatR}{r:Rt}{cs:List Value}
section
open Go.Shelf
attribute [local go_sem] Oper.semAt_some
theorem O9{a:List Nat}{V:Nat}(ha:Good a)(hm:BB^(m-1)<=V)(hs:a.length<s+m):LD a (List.replicate a.length 0) V s (val (a.drop s)):=by
 refine⟨?_,?_,by simp,fun d hd=>by rw[List.eq_of_mem_replicate hd];decide⟩
 ·have:val ((List.replicate a.length 0).drop s)=0:=by rw[List.drop_replicate];exact zq _
  rw[this];simp
 have h1:=jh (a.drop s) (uI ha s);rw[List.length_drop]at h1;exact Nat.lt_of_lt_of_le h1 (Nat.le_trans (Nat.pow_le_pow_right eX (by omega)) hm)
theorem Tz(h0:0<d)(h:d<=1073741823):bC d= [d]:=by have h1:d<BB:=Hy h;rw[iP (by omega),Nat.mod_eq_of_lt h1,Nat.div_eq_of_lt h1,bU]
theorem Ij{w:World}{M:List Nat}(hM:b_ M w)(h0:0<d)(h:d<=1073741823):Sl Int (w.alloc (.cells #[.int .i64 (d:Int)] 3)) M (some ⟨w.heap.size,0,none⟩) 1 1 (ints (bC d)):=by rw[Tz h0 h];have hg:Good [d]:=nT (Hy h) tu;have hr:Row (w.alloc (.cells #[.int .i64 (d:Int)] 3)) w.heap.size (ints [d]):=heap_alloc_new w _;exact hr.sl (fun e=>by have:=hM _ e;omega) rfl (by omega) (fU hg)
theorem TA:∃i,prog.info? 3=some i/\i.zero=some (.int .i64 0)/\i.size=1/\i.bytes=8:=info_parts qo
theorem MB{w:World}{M:List Nat}{xs ys:List Int}(h:bD Int 3 w M base v n xs)(hb:base<=w.heap.size)(hM:∀k,k∈M->k<base)(hy:Sl Int w (bP v++M) A m c ys)(hn:n+m<=100000):
 ∃v' w',(Builtin.append_ #[26,26] 26 #[v,.slice A m c]).run prog w=.ok v' w'/\bD Int 3 w' M base v' (n+m) (xs++ys)/\w.grownBy w' v.ownBlock:=by
 obtain⟨i,h1,h2,h3,h4⟩:=TA;obtain⟨v',w',r1,r2,r3,-⟩:=h.append (ty:=26) hb underlying26 h1 h2 h3 rfl hM hy (by rw[h4];omega) (by omega);exact⟨v',w',r1,r2,r3⟩
theorem YQ{w:World}{M:List Nat}(hb:base<=w.heap.size){d:Int}(hd:i64 d):bD Int 3 (w.alloc (.cells #[.int .i64 d] 3)) M base (.slice (some ⟨w.heap.size,0,none⟩) 1 1) 1 [d]:=⟨rfl, [.int .i64 d],World.ownsRow_lit (base:=base) (size:=1) (e:=3) w #[.int .i64 d] 1 hb (by simp[maxLen]) rfl,fun k x hk=>by
  match k,hk with
  |0,hk=>cases hk;exact⟨_,⟨rfl,hd⟩,fun j u hu=>by match j,hu with|0,hu=>exact hu⟩⟩
theorem WV{M:List Nat}(hM:b_ M W)(hd:d<=1073741823)(hs:Sl Int W M O nr cr (ints l))(hg:Good l)(hn:nr<=5000):
 ∃O' n' c' W',(Builtin.append_ #[26,26] 26 #[.slice (some ⟨W.heap.size,0,none⟩) 1 1,.slice O nr cr]).run prog (W.alloc (.cells #[.int .i64 (d:Int)] 3))=.ok (.slice O' n' c') W'/\Sl Int W' M O' n' c' (ints (d::l))/\Below W.heap.size W W':=by
 have o1:=YQ (w:=W) (M:=M) (base:=W.heap.size) (Nat.le_refl _) (VZ (Hy hd));have hs2:=(hs.more (b:=W.heap.size) (Nat.le_refl _)).keep (w':=W.alloc (.cells #[.int .i64 (d:Int)] 3)) (Keeps.of_below ((Below.refl W.heap.size W).alloc (Nat.le_refl _) _) _);obtain⟨v',W',r1,r2,r3⟩:=MB o1 (by simp) hM hs2 (by omega);obtain⟨A,c,rfl,hsl⟩:=r2.sl (by omega) hM;refine⟨A,_,c,W',r1,by simpa[ints]using hsl,?_⟩;exact aeD
theorem WW{M:List Nat}(hM:b_ M W)(hs:Sl Int W M O nr cr (ints l))(hn:nr<=5000):
 ∃O' n' c' W',(Builtin.append_ #[26,26] 26 #[.slice (some ⟨W.heap.size,0,none⟩) 0 0,.slice O nr cr]).run prog (W.alloc (.cells #[] 3))=.ok (.slice O' n' c') W'/\Sl Int W' M O' n' c' (ints l)/\Below W.heap.size W W':=by
 have o1:=bD.lit (α:=Int) (e:=3) W M (base:=W.heap.size) (Nat.le_refl _);have hs2:=(hs.more (b:=W.heap.size) (Nat.le_refl _)).keep (w':=W.alloc (.cells #[] 3)) (Keeps.of_below ((Below.refl W.heap.size W).alloc (Nat.le_refl _) _) _);obtain⟨v',W',r1,r2,r3⟩:=MB o1 (by simp) hM hs2 (by omega);obtain⟨A,c,rfl,hsl⟩:=r2.sl (by omega) hM;refine⟨A,_,c,W',r1,by simpa using hsl,?_⟩;exact aeD
theorem WX{q:List Nat}(h:q[j]?=some 0):q.set j 0=q:=by
 apply List.ext_getElem?;intro i;rw[List.getElem?_set];split;·next e=>subst e;rw[h];simp[(List.getElem?_eq_some_iff.1 h).1]
 rfl
theorem MC{q:List Nat}(h:q.take k=List.replicate k 0)(hj:j<k)(hl:j<q.length):q[j]?=some 0:=by have:=congrArg (fun l=>l[j]?) h;simpa[hj]using this
theorem Ep{q:List Nat}(h:q.take k=List.replicate k 0)(hj:j<=k):q.take j=List.replicate j 0:=by
 have:=congrArg (List.take j) h
 rwa [List.take_take,Nat.min_eq_left hj,List.take_replicate,Nat.min_eq_left hj]at this
theorem TB{q:List Nat}(h:q.take j=List.replicate j 0):(q.set j d).take j=List.replicate j 0:=by rw[List.take_set_of_le (Nat.le_refl _)];exact h
set_option maxRecDepth 100000 in
set_option maxHeartbeats 8000000 in
theorem MF{M:List Nat}{x y:Nat}{w:World}(hM:b_ M w)(hx:Sl Int w M A n c (ints (bC x)))(hy:Sl Int w M B m d (ints (bC y)))(hn:n<=2048)(hm:m<=2048)(hy0:0<y):
 Calls prog 62 #[.slice A n c,.slice B m d] w (DR2 w M (x/y) (x%y)):=by
 refine wid ?_;have hsA:=hx.small;have l1:=hx.eu;have l2:=hy.eu;have hm1:1<=m:=by
  rcases Nat.eq_zero_or_pos m with e|e;·rw[e]at l2;have:=jO.1 (List.length_eq_zero_iff.1 l2);omega
  exact e
 have hV:BB^(m-1)<=y:=by
  have:=Jo (l:=bC y) (fun e=>by rw[e]at l2;simp at l2;omega) (iQ y)
  rwa [l2,bI]at this
 obtain⟨s,hs⟩:=aC (n+1-m);have hsn:s<=n:=by omega
 have st:=O9 (V:=y) (s:=s) (m:=m) (aO x) hV (by omega);rw[l1]at st;have hmk:=qR (t:=26) underlying26 n (by omega);obtain⟨W1,hW1⟩:=aC (w.alloc (.cells ((List.replicate n (0:Int)).map (Value.int .i64)).toArray 3));replace hmk:=hmk w;rw[hW1]at hmk;have r1:Row W1 w.heap.size (ints (List.replicate n 0)):=by rw[<-hW1,<-lH];exact Row.new _ w
 have b1:Below w.heap.size w W1:=by rw[<-hW1];exact bel
 have s1:W1.heap.size=w.heap.size+1:=by rw[<-hW1];simp
 have hM1:b_ (w.heap.size::M) W1:=fun k hk=>by exact aew
 have hx1:Sl Int W1 (w.heap.size::M) A n c (ints (bC x)):=(hx.more (Nat.le_refl _)).keep (Keeps.of_below b1 _);have hy1:Sl Int W1 (w.heap.size::M) B m d (ints (bC y)):=(hy.more (Nat.le_refl _)).keep (Keeps.of_below b1 _);have hcut:=NJ (t:=26) underlying26 (sz:=1) (fun w=>by kernel_rfl) A (n:=n) (cp:=c) (k:=s) hsn;have hsc:=hx1.cut (k:=s) hsn (sz:=1) rfl;rw[SS]at hsc;obtain⟨O3,n3,c3,W3,Zn,hs3,hb3⟩:=WW hM1 hsc (by omega);rw[s1]at Zn;have RUN:=Hd Zn;have H:=h_ hx hy hM b1;have L:=h_ l1 l2 r1 st;have S3:=Hd2 hs3 hb3;clear hx hy hM hx1 hy1 hM1 b1 hW1 r1 st l1 l2 hsc Zn hs3 hb3 hV;have hmx:max (0:Int) ((n:Int)-(m:Int)+1)=(s:Int):=by omega
 have HS:=Hd hs;clear hs;refine ent func62 rfl ntmps62 ?_
 gi_wp2_with (first
  |(gi_at_builtin;refine wpListIn_plain rfl fun K hK'=>?_;refine aI _ _ _ rfl rfl rfl RUN.out (hK' _ _ ?_);clear hK' K)
  |(refine Cl 94 (jy O3 n3 c3 ((bC x).drop s) _ S3.out.1 (uI (aO x) s)) ?_;rintro e w4 ⟨q,rfl,hq,ht,hb4⟩;have T4:=fB hq ht hb4;clear hq ht hb4)
  |fail)
 have hI0:=L.out.2.2.2;have hq0:∀rr,rr<y->(bC rr).length<=m:=fun rr h=>by rw[<-L.out.2.1];exact kR (Nat.le_of_lt h)
 have HQ0:=Hd hq0;have b3:Below w.heap.size w w4:=H.out.2.2.2.trans ((S3.out.2.trans (T4.out.2.2.mono S3.out.2.size)).mono (by omega));have YR:=(S3.out.1.go T4.out.2.2).nY T4.out.1;rw[eG,T4.out.2.1]at YR;have Z_:q<=m:=by rw[<-YR.eu];exact hq0 _ hI0.2.1
 have hrow4:Row w4 w.heap.size (ints (List.replicate n 0)):=(L.out.2.2.1.go S3.out.2 (by omega)).go T4.out.2.2 (by have:=S3.out.2.size;omega);have ST:=Hd5 hI0 YR hrow4 b3 (show w.heap.size<w4.heap.size by have:=S3.out.2.size;have:=T4.out.2.2.size;omega);clear hI0 hq0 b3 YR hrow4 T4 S3 RUN hcut hmx hmk;gi_wp2;gi_loopw[8,9] (fun r0 i wr=>∃(k rr:Nat) (qs:List Nat) (O:Option Addr) (nr cr:Nat),k<=s/\i=.int .i64 ((k:Int)-1)/\r0=.slice O nr cr/\nr<=m/\Hid (LD (bC x) qs y k rr/\qs.take k=List.replicate k 0)/\Hid (Sl Int wr (w.heap.size::M) O nr cr (ints (bC rr)))/\Hid (Row wr w.heap.size (ints qs))/\Below w.heap.size w wr/\w.heap.size<wr.heap.size) (fun _ i _=>(intOf i+1).toNat);case atStart=>exact⟨s,_,_,O3,q,c3,Nat.le_refl _,rfl,rfl,Z_,⟨ST.out.1,by rw[List.take_replicate,Nat.min_eq_left hsn]⟩,ST.out.2.1,ST.out.2.2.1,ST.out.2.2.2⟩
 case round=>
  clear ST Z_;obtain⟨k,rr,qs,O,nr,cr,hk,rfl,rfl,hnr,hI,hR,hQ,hb,hsz⟩:=hrel;rcases Nat.eq_zero_or_pos k with h0|h0
  ·subst h0;have hdv:=QB hI.out.1;rw[bI]at hdv;have hg:=hI.out.1.2.2.2;have hl:=hI.out.1.2.2.1;rw[L.out.1]at hl;have Nw:w.heap.size∉M:=fun e=>by have:=H.out.2.2.1 _ e;omega
   have hsl:=hQ.out.sl Nw (n:=n) (by rw[jm];exact hl) (by omega) (fU hg);have hrs:=hR.out.less (M':=M) (fun g hg=>List.mem_cons_of_mem _ hg);have HSL:=h_ hsl hg hdv hrs;clear hsl hdv hg hl Nw hrs;gi_wp2_with (refine Cl 94 (jy _ _ _ qs _ HSL.out.1 HSL.out.2.1) ?_;rintro e w2 ⟨q2,rfl,hq,ht,hb2⟩;have HT:=fB ht hq hb2;clear ht hq hb2)
   go_ret2;have hs2:=(HSL.out.1.go HT.out.2.2).nY HT.out.2.1;rw[eG,HT.out.1,HSL.out.2.2.1.1]at hs2;have hs3:=HSL.out.2.2.2.go HT.out.2.2;rw[HSL.out.2.2.1.2]at hs3;exact⟨_,q2,n,O,nr,cr,rfl,hs2,hs3,hb.trans (HT.out.2.2.mono (by omega))⟩
  ·obtain⟨j,rfl⟩:∃j,k=j+1:=⟨k-1,by omega⟩;rw[show((j+1:Nat):Int)-1=(j:Int) by omega];have hxr:Sl Int wr (w.heap.size::M) A n c (ints (bC x)):=(H.out.1.more (Nat.le_refl _)).keep (Keeps.of_below hb _);have hyr:Sl Int wr (w.heap.size::M) B m d (ints (bC y)):=(H.out.2.1.more (Nat.le_refl _)).keep (Keeps.of_below hb _);have hMr:b_ (w.heap.size::M) wr:=fun g hg=>by
    rcases List.mem_cons.1 hg with rfl|hg;·exact hsz
    have:=H.out.2.2.1 g hg;omega
   obtain⟨b0,o0,dj,rfl,hc0,hd,hdj,hat⟩:=hxr.mG (aO x) (k:=j) (by omega);obtain⟨O5,n5,c5,W5,aaW,hs5,hb5⟩:=WV hMr hd hR.out (aO rr) (by omega);obtain⟨R',hR'⟩:=aC (rr*BB+dj);have hv5:val (dj::bC rr)=R':=by rw[val,bI,<-hR',Nat.mul_comm rr];omega
   have hg5:Good (dj::bC rr):=nT (Hy hd) (aO rr);have hstep:=LG (aO x) hI.out.1 (show j<(bC x).length by rw[L.out.1];omega);rw[hat,hR']at hstep;have aaX:=Hd aaW;have S5:=Iw hs5 hb5 hv5 hg5 hyr hMr hstep;clear hxr hs5 hb5 hv5 hg5 aaW hyr hMr hstep hdj hat;by_cases hlt:R'<y
   ·have hcz:=Hd (pI hlt)
    gi_wp2_with (first
     |(gi_at_builtin;refine wpListIn_plain rfl fun K hK'=>?_;refine aI _ _ _ rfl rfl rfl aaX.out (hK' _ _ ?_);clear hK' K)
     |(refine⟨trivial,?_⟩;gi_at_call 64;have g:=T6.out;clear g;refine Cn (tH _ B _ c5 m d R' y _ T6.out.1 (S5.out.2.2.2.2.1.go T6.out.2)) ?_;rintro e w7 ⟨rfl,hb7⟩;rw[hcz.out];have T7:=Hd2 (T6.out.1.go hb7) (T6.out.2.trans (hb7.mono T6.out.2.size));clear hb7)
     |(refine Cl 94 (jy O5 n5 c5 (dj::bC rr) _ S5.out.1 S5.out.2.2.2.1) ?_;rintro e w6 ⟨q6,rfl,hq,ht,hb6⟩;have h6:=(S5.out.1.go hb6).nY hq;rw[eG,ht,S5.out.2.2.1]at h6;have T6:=Hd2 h6 (S5.out.2.1.trans (hb6.mono S5.out.2.1.size));have T6q:=Hd hq;clear hq ht hb6 h6)
     |fail)
    have hdiv:=S5.out.2.2.2.2.2.2.1;have hz:qs[j]?=some 0:=MC hI.out.2 (Nat.lt_succ_self _) (by rw[hI.out.1.2.2.1,L.out.1];omega);rw[Nat.div_eq_of_lt hlt,Nat.mod_eq_of_lt hlt,WX hz]at hdiv;have hbw:Below w.heap.size w w7:=hb.trans (T7.out.2.mono (by omega));exact⟨⟨j,R',qs,_,_,_,by omega,rfl,rfl,by rw[<-T7.out.1.eu];exact HQ0.out _ hlt,⟨hdiv,Ep hI.out.2 (by omega)⟩,T7.out.1,hQ.out.go T7.out.2 hsz,hbw,by have:=T7.out.2.size;omega⟩,by simp[intOf]⟩
   obtain⟨cz,YS⟩:=aC (qK R' y);have acr:¬cz<0:=by
    rcases Nat.lt_or_ge y R' with h|h;·rw[<-YS,pJ h];decide
    rw[<-YS,uM (by omega)];decide
   have hcz:=Hd YS;clear YS
   gi_wp2_with (first
    |(gi_at_builtin;refine wpListIn_plain rfl fun K hK'=>?_;refine aI _ _ _ rfl rfl rfl aaX.out (hK' _ _ ?_);clear hK' K)
    |(refine⟨trivial,?_⟩;gi_at_call 64;have g:=T6.out;clear g;refine Cn (tH _ B _ c5 m d R' y _ T6.out.1 (S5.out.2.2.2.2.1.go T6.out.2)) ?_;rintro e w7 ⟨rfl,hb7⟩;rw[hcz.out];have T7:=Hd2 (T6.out.1.go hb7) (T6.out.2.trans (hb7.mono T6.out.2.size));clear hb7)
    |(refine Cl 94 (jy O5 n5 c5 (dj::bC rr) _ S5.out.1 S5.out.2.2.2.1) ?_;rintro e w6 ⟨q6,rfl,hq,ht,hb6⟩;have h6:=(S5.out.1.go hb6).nY hq;rw[eG,ht,S5.out.2.2.1]at h6;have T6:=Hd2 h6 (S5.out.2.1.trans (hb6.mono S5.out.2.1.size));have T6q:=Hd hq;clear hq ht hb6 h6)
    |fail)
   have hR1:R'<(1073741823+1)*y:=by have h1:=hI.out.1.2.1;have h2:(rr+1)*BB<=y*BB:=Nat.mul_le_mul_right _ h1;rw[Nat.add_mul,Nat.one_mul]at h2;have h3:BB=1073741824:=rfl;rw[h3]at hR' h2;rw[Nat.mul_comm];omega
   gi_loopw[10,11] (fun l0 h0 wr'=>∃lo hi:Nat,l0=.int .i64 lo/\h0=.int .i64 hi/\lo<=hi/\hi<=1073741823/\Hid (lo*y<=R'/\R'<(hi+1)*y)/\Below w7.heap.size w7 wr') (fun l0 h0 _=>(intOf h0).toNat-(intOf l0).toNat);case atStart=>exact⟨0,1073741823,rfl,rfl,by omega,by omega,⟨by omega,hR1⟩,Below.refl _ _⟩
   case round=>
    obtain⟨lo,hi,rfl,rfl,hlh,hhi,hS,hbl⟩:=hrel;have XP:b_ (w.heap.size::M) wr:=S5.out.2.2.2.2.2.1.le (Nat.le_trans T7.out.2.size hbl.size);have hyl:Sl Int wr (w.heap.size::M) B m d (ints (bC y)):=(S5.out.2.2.2.2.1.go T7.out.2).go hbl;have hrl:Sl Int wr (w.heap.size::M) O5 q6 c5 (ints (bC R')):=T7.out.1.go hbl;by_cases hlo:lo<hi
    ·obtain⟨mid,hmid⟩:=aC ((lo+hi+1)/2);have hm0:0<mid:=by omega
     have hmm:mid<=1073741823:=by omega
     have e1:((lo:Int)+(hi:Int)+1)/2=(mid:Int):=by omega
     have e2:((lo:Int)+(hi:Int)+1).tdiv 2=(mid:Int):=by rw[Int.tdiv_eq_ediv_of_nonneg (by omega)];exact e1
     have hst:=LH hS.out.1 hS.out.2 hmid.symm hlo;obtain⟨cm,hcm⟩:=aC (qK (mid*y) R');have hcm1:cm<=0↔mid*y<=R':=by
      rw[<-hcm];rcases Nat.lt_trichotomy (mid*y) R' with h|h|h;·rw[pI h];exact⟨fun _=>by omega,fun _=>by decide⟩
      ·rw[uM h];exact⟨fun _=>by omega,fun _=>by decide⟩
      rw[pJ h];exact⟨fun e=>absurd e (by decide),fun e=>by omega⟩
     have HCM:=Hd hcm;have LL:=Hd5 XP hyl hrl hst hmid;clear XP hyl hrl hst hcm hmid;by_cases hc:cm<=0;all_goals(
     gi_wp2_with (first
      |(refine⟨trivial,?_⟩;gi_at_call 64;have g:=T8.out;clear g;refine Cn (tH _ _ _ _ _ _ (mid*y) R' _ T8.out.1 (LL.out.2.2.1.go T8.out.2)) ?_;rintro e w9 ⟨rfl,Ns⟩;rw[HCM.out];have T9:=Hd (T8.out.2.trans (Ns.mono T8.out.2.size));clear Ns)
      |(refine Cl 95 (D_ (x:=mid) (y:=y) (LL.out.1.le (by simp)) (Ij LL.out.1 hm0 hmm) (LL.out.2.1.go (by exact bel)) (by omega) (by omega)) ?_;rintro e w8 ⟨A8,n8,c8,rfl,hs8,hb8⟩;have T8:=Hd2 hs8 (show Below wr.heap.size wr w8 from((Below.refl _ _).alloc (Nat.le_refl _) _).trans (hb8.mono (by simp)));clear hs8 hb8)
      |fail))
     ·have hx2:=LL.out.2.2.2.1.1 (hcm1.1 hc);exact⟨⟨mid,hi,rfl,rfl,hx2.2.2.2,hhi,⟨hx2.1,hx2.2.1⟩,hbl.trans (T9.out.mono hbl.size)⟩,by simp[intOf];omega⟩
     have hx2:=LL.out.2.2.2.1.2 (fun h=>by have:=hcm1.2 h;omega);exact⟨⟨lo,mid-1,rfl,by go_num,hx2.2.2.2,by omega,⟨hx2.1,hx2.2.1⟩,hbl.trans (T9.out.mono hbl.size)⟩,by simp[intOf];omega⟩
    ·obtain rfl:lo=hi:=by omega
     have hse:=search_end hS.out.1 hS.out.2;have hlo1:0<lo:=by rw[hse.1];exact Nat.div_pos (by omega) hy0
     have hdiv:=S5.out.2.2.2.2.2.2.1;rw[<-hse.1,<-hse.2]at hdiv;have hq6:q6<=5000:=by have h1:=T6q.out;have h2:=S5.out.1.eu;have h3:=hR.out.eu;simp only[List.length_cons]at h2;omega
     have hz:qs[j]?=some 0:=MC hI.out.2 (Nat.lt_succ_self _) (by rw[hI.out.1.2.2.1,L.out.1];omega);have hBl:=T7.out.2.trans (hbl.mono T7.out.2.size);have hql:Row wr w.heap.size (ints qs):=hQ.out.go hBl hsz;have cj:wr.cell? ⟨w.heap.size,j,none⟩=some (.int .i64 0):=hql.cell (jK hz);have fj:wr.frozen? ⟨w.heap.size,j,none⟩=false:=hql.free j;have hput:=hql.put j (lo:Int);rw[ints_set]at hput;obtain⟨WS,hWS⟩:=aC (wr.setCell ⟨w.heap.size,j,none⟩ (.int .i64 (lo:Int)));have kp:Keeps (w.heap.size::M) wr WS:=by rw[<-hWS];exact(Keeps.refl _ _).setCell (p:=⟨w.heap.size,j,none⟩) (.inl (by simp)) _
     rw[hWS]at hput;have szs:WS.heap.size=wr.heap.size:=by rw[<-hWS];simp
     have bS:Below w.heap.size w WS:=by rw[<-hWS];exact(hb.trans (hBl.mono (by omega))).setCell (p:=⟨w.heap.size,j,none⟩) (Nat.le_refl _) _
     have LL:=Hd (And.intro (show b_ (w.heap.size::M) WS from XP.le (by omega)) (And.intro (hyl.keep kp) (And.intro (hrl.keep kp) (And.intro hput (And.intro bS (And.intro hdiv (And.intro hS.out.1 (show w.heap.size<WS.heap.size by have:=hBl.size;omega))))))));clear XP hyl hrl hdiv hBl hql hput kp szs bS hse
     gi_wp2_with (first
      |(refine⟨trivial,?_⟩;gi_at_call 96;have g:=T8.out;clear g;refine Cn (SX (x:=R') (y:=lo*y) (LL.out.1.le T8.out.2.size) (LL.out.2.2.1.go T8.out.2) T8.out.1 (by omega) LL.out.2.2.2.2.2.2.1) ?_;rintro e w9 ⟨A9,n9,c9,rfl,hs9,Ns⟩;have T9:=Hd2 hs9 (T8.out.2.trans (Ns.mono T8.out.2.size));clear hs9 Ns)
      |(refine Cl 95 (D_ (x:=lo) (y:=y) (LL.out.1.le (by simp)) (Ij LL.out.1 hlo1 (by omega)) (LL.out.2.1.go (by exact bel)) (by omega) (by omega)) ?_;rintro e w8 ⟨A8,n8,c8,rfl,hs8,hb8⟩;have T8:=Hd2 hs8 (show Below WS.heap.size WS w8 from((Below.refl _ _).alloc (Nat.le_refl _) _).trans (hb8.mono (by simp)));clear hs8 hb8)
      |fail)
     have hsw:=LL.out.2.2.2.2.2.2.2;exact⟨⟨j,R'-lo*y,qs.set j lo,_,_,_,by omega,rfl,rfl,by rw[<-T9.out.1.eu];exact HQ0.out _ LL.out.2.2.2.2.2.1.2.1,⟨LL.out.2.2.2.2.2.1,TB (Ep hI.out.2 (by omega))⟩,T9.out.1,LL.out.2.2.2.1.go T9.out.2 hsw,LL.out.2.2.2.2.1.trans (T9.out.2.mono (by omega)),by have:=T9.out.2.size;omega⟩,by simp[intOf]⟩
end
def RV(w:World)(M:List Nat)(v:Value)(x:RatR):Prop:=∃A n c B m d,v=.agg #[.bool x.1.1,.slice A n c,.bool x.2.1,.slice B m d]/\Sl Int w M A n c x.1.2/\Sl Int w M B m d x.2.2
theorem RV.go{w w':World}{M:List Nat}{v:Value}{x:RatR}(h:RV w M v x)(hb:Below w.heap.size w w'):RV w' M v x:=by exact ae4
theorem QW.rv{w:World}{M:List Nat}(h:QW w M v r):RV w M v (jd r):=h
theorem RV.qw{w:World}{M:List Nat}(h:RV w M v (jd r)):QW w M v r:=h
theorem Bg{w:World}{M:List Nat}(h:Rep.rd w M x cs):
 ∃A n c B m d,cs= [.bool x.1.1,.slice A n c,.bool x.2.1,.slice B m d]/\Sl Int w M A n c x.1.2/\Sl Int w M B m d x.2.2:=by
 obtain⟨ds,fs,rfl,⟨ds1,fs1,rfl,h3,A1,n1,c1,rfl,h4⟩,⟨ds2,fs2,rfl,h5,A2,n2,c2,rfl,h6⟩⟩:=h;have h3:ds1= [.bool x.1.1]:=h3;have h5:ds2= [.bool x.2.1]:=h5;subst h3;subst h5;exact⟨A1,n1,c1,A2,n2,c2,rfl,h4,h6⟩
theorem JB{w:World}{M:List Nat}(h1:Sl Int w M A n c x.1.2)(h2:Sl Int w M B m d x.2.2):Rep.rd w M x [.bool x.1.1,.slice A n c,.bool x.2.1,.slice B m d]:=⟨[.bool x.1.1,.slice A n c], [.bool x.2.1,.slice B m d],rfl,⟨[.bool x.1.1], [.slice A n c],rfl,rfl,A,n,c,rfl,h1⟩,⟨[.bool x.2.1], [.slice B m d],rfl,rfl,B,m,d,rfl,h2⟩⟩
def GV(w:World)(M:List Nat)(v:Value)(x:Bf):Prop:=∃A n c B m d E i e F j f,v=.agg #[.bool x.1.1.1,.slice A n c,.bool x.1.2.1,.slice B m d,.bool x.2.1.1,.slice E i e,.bool x.2.2.1,.slice F j f]/\Sl Int w M A n c x.1.1.2/\Sl Int w M B m d x.1.2.2/\Sl Int w M E i e x.2.1.2/\Sl Int w M F j f x.2.2.2
theorem GV.go{w w':World}{M:List Nat}{v:Value}{x:Bf}(h:GV w M v x)(hb:Below w.heap.size w w'):GV w' M v x:=by obtain⟨A,n,c,B,m,d,E,i,e,F,j,f,rfl,h1,h2,h3,h4⟩:=h;exact⟨A,n,c,B,m,d,E,i,e,F,j,f,rfl,h1.go hb,h2.go hb,h3.go hb,h4.go hb⟩
theorem Zo{w:World}{M:List Nat}{x:Bf}(h:Rep.rd w M x cs):
 ∃A n c B m d E i e F j f,cs= [.bool x.1.1.1,.slice A n c,.bool x.1.2.1,.slice B m d,.bool x.2.1.1,.slice E i e,.bool x.2.2.1,.slice F j f]/\Sl Int w M A n c x.1.1.2/\Sl Int w M B m d x.1.2.2/\Sl Int w M E i e x.2.1.2/\Sl Int w M F j f x.2.2.2:=by
 obtain⟨ds,fs,rfl,h1,h2⟩:=h;obtain⟨A,n,c,B,m,d,rfl,g1,g2⟩:=Bg h1;obtain⟨E,i,e,F,j,f,rfl,g3,g4⟩:=Bg h2;exact⟨A,n,c,B,m,d,E,i,e,F,j,f,rfl,g1,g2,g3,g4⟩
theorem Sl.ratat{w:World}{M:List Nat}{xs:List RatR}(h:Sl RatR w M A n c xs)(hk:xs[k]?=some x):∃b o A1 n1 c1 A2 n2 c2,A=some ⟨b,o,none⟩/\w.cell? ⟨b,o+k*4,none⟩=some (.bool x.1.1)/\w.cell? ⟨b,o+k*4+1,none⟩=some (.slice A1 n1 c1)/\w.cell? ⟨b,o+k*4+2,none⟩=some (.bool x.2.1)/\w.cell? ⟨b,o+k*4+3,none⟩=some (.slice A2 n2 c2)/\Sl Int w M A1 n1 c1 x.1.2/\Sl Int w M A2 n2 c2 x.2.2:=h.TY (p:=x.1.1) (l1:=x.1.2) (q:=x.2.1) (l2:=x.2.2) hk
theorem Sl.aaY{w:World}{M:List Nat}{xs:List Bf}(h:Sl Bf w M A n c xs){x:Bf}(hk:xs[k]?=some x):
 ∃b o A1 n1 c1 A2 n2 c2 A3 n3 c3 A4 n4 c4,A=some ⟨b,o,none⟩/\
  (w.cell? ⟨b,o+k*8,none⟩=some (.bool x.1.1.1)/\w.cell? ⟨b,o+k*8+1,none⟩=some (.slice A1 n1 c1)/\w.cell? ⟨b,o+k*8+2,none⟩=some (.bool x.1.2.1)/\w.cell? ⟨b,o+k*8+3,none⟩=some (.slice A2 n2 c2))/\
  (w.cell? ⟨b,o+k*8+4,none⟩=some (.bool x.2.1.1)/\w.cell? ⟨b,o+k*8+5,none⟩=some (.slice A3 n3 c3)/\w.cell? ⟨b,o+k*8+6,none⟩=some (.bool x.2.2.1)/\w.cell? ⟨b,o+k*8+7,none⟩=some (.slice A4 n4 c4))/\
  (Sl Int w M A1 n1 c1 x.1.1.2/\Sl Int w M A2 n2 c2 x.1.2.2)/\(Sl Int w M A3 n3 c3 x.2.1.2/\Sl Int w M A4 n4 c4 x.2.2.2):=by
 obtain⟨b,o,es,rfl,h1,h2⟩:=h.get hk;obtain⟨A,n,c,B,m,d,E,i,e,F,j,f,rfl,g1,g2,g3,g4⟩:=Zo h1;have h3:=h2.2;exact⟨b,o,A,n,c,B,m,d,E,i,e,F,j,f,rfl,⟨h3 0 _ rfl,h3 1 _ rfl,h3 2 _ rfl,h3 3 _ rfl⟩,⟨h3 4 _ rfl,h3 5 _ rfl,h3 6 _ rfl,h3 7 _ rfl⟩,⟨g1,g2⟩,g3,g4⟩
theorem Zp{w:World}{M:List Nat}{c d:Int}{r:RatR}(h:Rep.rd w M ((op,a,b,c,d,r):InsR) cs):
 ∃A n k B m l,cs= [.int .i64 op,.int .i64 a,.int .i64 b,.int .i64 c,.int .i64 d,.bool r.1.1,.slice A n k,.bool r.2.1,.slice B m l]/\(i64 op/\i64 a/\i64 b/\i64 c/\i64 d)/\Sl Int w M A n k r.1.2/\Sl Int w M B m l r.2.2:=by
 obtain⟨_,_,rfl,⟨rfl,i1⟩,_,_,rfl,⟨rfl,i2⟩,_,_,rfl,⟨rfl,i3⟩,_,_,rfl,⟨rfl,i4⟩,_,_,rfl,⟨rfl,i5⟩,h⟩:=h;obtain⟨A,n,k,B,m,l,rfl,h1,h2⟩:=Bg h;exact⟨A,n,k,B,m,l,rfl,⟨i1,i2,i3,i4,i5⟩,h1,h2⟩
theorem zM{w:World}{M:List Nat}{c d:Int}{r:RatR}{l:Nat}(hi:i64 op/\i64 a/\i64 b/\i64 c/\i64 d)(h1:Sl Int w M A n k r.1.2)(h2:Sl Int w M B m l r.2.2):
 Rep.rd w M ((op,a,b,c,d,r):InsR) [.int .i64 op,.int .i64 a,.int .i64 b,.int .i64 c,.int .i64 d,.bool r.1.1,.slice A n k,.bool r.2.1,.slice B m l]:=by
 obtain⟨i1,i2,i3,i4,i5⟩:=hi;exact⟨[_],_,rfl,⟨rfl,i1⟩, [_],_,rfl,⟨rfl,i2⟩, [_],_,rfl,⟨rfl,i3⟩, [_],_,rfl,⟨rfl,i4⟩, [_],_,rfl,⟨rfl,i5⟩,JB h1 h2⟩
theorem Sl.insat{w:World}{M:List Nat}{xs:List InsR}(h:Sl InsR w M A n c xs){b' c' d:Int}{r:RatR}(hk:xs[k]?=some (op,a,b',c',d,r)):
 ∃b o A1 n1 c1 A2 n2 c2,A=some ⟨b,o,none⟩/\
  (w.cell? ⟨b,o+k*9,none⟩=some (.int .i64 op)/\w.cell? ⟨b,o+k*9+1,none⟩=some (.int .i64 a)/\w.cell? ⟨b,o+k*9+2,none⟩=some (.int .i64 b')/\w.cell? ⟨b,o+k*9+3,none⟩=some (.int .i64 c')/\w.cell? ⟨b,o+k*9+4,none⟩=some (.int .i64 d))/\
  (w.cell? ⟨b,o+k*9+5,none⟩=some (.bool r.1.1)/\w.cell? ⟨b,o+k*9+6,none⟩=some (.slice A1 n1 c1)/\w.cell? ⟨b,o+k*9+7,none⟩=some (.bool r.2.1)/\w.cell? ⟨b,o+k*9+8,none⟩=some (.slice A2 n2 c2))/\
  (i64 op/\i64 a/\i64 b'/\i64 c'/\i64 d)/\Sl Int w M A1 n1 c1 r.1.2/\Sl Int w M A2 n2 c2 r.2.2:=by
 obtain⟨b,o,es,rfl,h1,h2⟩:=h.get hk;obtain⟨A,n,k',B,m,l,rfl,hi,g1,g2⟩:=Zp h1;have h3:=h2.2;exact⟨b,o,A,n,k',B,m,l,rfl,⟨h3 0 _ rfl,h3 1 _ rfl,h3 2 _ rfl,h3 3 _ rfl,h3 4 _ rfl⟩,⟨h3 5 _ rfl,h3 6 _ rfl,h3 7 _ rfl,h3 8 _ rfl⟩,hi,g1,g2⟩
theorem Sl.lit{α:Type} [kE α] {w:World}{M:List Nat}(hM:b_ M w)(e:TypeId){xs:List α}(hn:xs.length=n)(hs:n<=1000000)
 (h:∀k x,xs[k]?=some x->∃es,Rep.rd w M x es/\∀j u,es[j]?=some u->cs[k*Rep.sz α+j]?=some u):Sl α (w.alloc (.cells cs.toArray e)) M (some ⟨w.heap.size,0,none⟩) n n xs:=by
 have hb:Below w.heap.size w (w.alloc (.cells cs.toArray e)):=by exact bel
 refine⟨hn,Nat.le_refl _,by unfold jG;omega,by omega,.inr ⟨w.heap.size,0,rfl,fun k x hk=>?_⟩⟩;exact adz
section
open Go.Shelf
attribute [local go_sem] Oper.semAt_some
theorem WY:(prog.info? 28).map (fun i=>(i.zero,i.size,i.bytes))=some (some (.agg #[.bool false,.slice none 0 0]),2,32):=by kernel_rfl
def mW:List Int->List Int
 |a::b::l=>a*b::mW l
 |_=> []
theorem MH:∀{zs:List Int}{k:Nat}{a b:Int},zs[2*k]?=some a->zs[2*k+1]?=some b->(mW zs)[k]?=some (a*b)
 |x::y::l,0,a,b,ha,hb=>by
  have h1:x=a:=by simpa using ha
  have h2:y=b:=by simpa using hb
  subst h1;subst h2;rfl
 |x::y::l,k+1,a,b,ha,hb=>by
  have h1:l[2*k]?=some a:=by rw[show 2*(k+1)=2*k+1+1 by omega]at ha;simpa using ha
  have h2:l[2*k+1]?=some b:=by rw[show 2*(k+1)+1=2*k+1+1+1 by omega]at hb;simpa using hb
  simpa[mW]using MH h1 h2
 | [x],k,a,b,ha,hb=>by simp at hb
 | [],k,a,b,ha,hb=>by simp at hb
theorem Ik:∀{zs:List Int}{m:Nat},zs.length=2*m->(mW zs).length=m
 | [],m,h=>by simp at h;simp[mW];omega
 | [x],m,h=>by simp at h;omega
 |x::y::l,m,h=>by
  obtain⟨k,rfl⟩:∃k,m=k+1:=⟨m-1,by simp at h;omega⟩;have:l.length=2*k:=by simp at h;omega
  simp[mW,Ik this]
theorem oI{w:World}{M:List Nat}(hq:aG z=q)(h:Sl Int w M A n c (ints (bG z))):Rep.rd w M (jk z) [.bool q,.slice A n c]:=by subst hq;exact⟨[.bool (aG z)], [.slice A n c],rfl,rfl,A,n,c,rfl,h⟩
theorem rM{M:List Nat}(A:Option Addr)(n c m:Nat)(zs:List Int)(w:World)(hM:b_ M w)(hx:Sl lG w M A n c (zs.map jk))(hz:∀z,z∈zs->fits z=true)(hp:∀z,z∈mW zs->fits z=true)(hl:zs.length=2*m)(hm:m<=1000):
 Calls prog 83 #[.slice A n c] w fun e w'=>∃O cO,e=.returned (.slice O m cO)/\Sl lG w' M O m cO ((mW zs).map jk)/\Below w.heap.size w w':=by
 refine wid ?_;have hs:=hx.small;have hn:n=2*m:=by have:=hx.len;simp at this;omega
 have hpl:=Ik hl;have HNM:=Hd hn;have H:=Zw hx hM hz hp hl hpl;clear hx hM hz hp hl hpl hn;refine ent func83 rfl ntmps83 ?_;gi_wp2;gi_loopw[2,3] (fun v0 i wr=>∃(k:Nat) (v:Value),v=v0/\k<=m/\i=.int .i64 ((2*k:Nat):Int)/\Hid (bD lG 28 wr M w.heap.size v k (((mW zs).take k).map jk))/\Below w.heap.size w wr) (fun _ i _=>n-(intOf i).toNat);case atStart=>exact⟨0,_,rfl,Nat.zero_le _,rfl,bD.nil _ _ _,Below.refl _ _⟩
 case round=>
  obtain⟨k,v,rfl,hk,rfl,hO,hb⟩:=hrel;obtain⟨j,hj⟩:=aC (2*k);rw[hj];have HJ:=Hd hj;have k1:IntKind.i64.wrap ((j:Int)+1)=((j+1:Nat):Int):=by have:=HNM.out;rw[IntKind.wrap_i64];omega
  have k2:IntKind.i64.wrap ((j:Int)+2)=((j+2:Nat):Int):=by have:=HNM.out;rw[IntKind.wrap_i64];omega
  by_cases hlt:k<m
  ·have hj1:j<n:=by have:=HNM.out;omega
   have hj2:j+1<n:=by have:=HNM.out;omega
   obtain⟨a,ha⟩:=dW zs j (by rw[H.out.2.2.2.2.1];omega);obtain⟨b,hbb⟩:=dW zs (j+1) (by rw[H.out.2.2.2.2.1];omega);have hpk:=MH (zs:=zs) (k:=k) (by rw[hj];exact ha) (by rw[hj];exact hbb);have fab:=H.out.2.2.2.1 _ (List.mem_of_getElem? hpk);have fa:=H.out.2.2.1 _ (List.mem_of_getElem? ha);have fb:=H.out.2.2.1 _ (List.mem_of_getElem? hbb);have hown:∀q,q∈bP v->w.heap.size<=q/\q<wr.heap.size:=fun q hq=>hO.out.lt (bJ.1 hq);have hMo:b_ (bP v++M) wr:=fun q hq=>by
    rcases List.mem_append.1 hq with hq|hq;·exact(hown q hq).2
    exact H.out.2.1.le hb.size q hq
   have hxo:Sl lG wr (bP v++M) A n c (zs.map jk):=(H.out.1.moreL (bP v) (fun q hq=>(hown q hq).1)).keep (Keeps.of_below hb _);obtain⟨b0,o0,A1,n1,c1,rfl,hc0,hc1,hs1⟩:=hxo.LZ (k:=j) (neg:=aG a) (l:=ints (bG a)) (by rw[List.getElem?_map,ha];rfl);obtain⟨b0',o0',A2,n2,c2,e0,hc2,hc3,hs2⟩:=hxo.LZ (k:=j+1) (neg:=aG b) (l:=ints (bG b)) (by rw[List.getElem?_map,hbb];rfl);obtain⟨rfl,rfl⟩:b0=b0'/\o0=o0':=by simpa using e0
   have v0:=ah hc0;have v1:=ah hc1;have v2:=ah hc2;have v3:=ah hc3;have S:=Iw hs1 hs2 hMo hpk fab fa fb;clear hc0 hc1 hc2 hc3 e0 hxo hs1 hs2 hMo hown hpk fab fa fb ha hbb hj;generalize hqa:aG a=qa at*;generalize yK:aG b=qb at*;have HQ:=Hd2 hqa yK;clear hqa yK;gi_wp2;refine aP [] 15 (by kernel_rfl) (by kernel_rfl) ?_;refine ay 0 ?_;refine ay 1 ?_;refine ay 2 ?_;refine ay 3 ?_;refine ay 4 ?_;refine ay 5 ?_;refine ay 6 ?_;refine ay 7 ?_;refine ay 8 ?_;refine ay 9 ?_
   refine eU 10 fun K hK=>?_;gi_wp2;refine Cm (WC (M:=bP v++M) (a:=a) (b:=b) (S.out.2.2.1.le (w':=wr.drew) (Nat.le_refl _)) ⟨A1,n1,c1,by rw[HQ.out.1],S.out.1.keep (Keeps.refl _ _).drew⟩ ⟨A2,n2,c2,by rw[HQ.out.2],S.out.2.1.keep (Keeps.refl _ _).drew⟩ S.out.2.2.2.2.2.1 S.out.2.2.2.2.2.2) ?_;rintro e w2 ⟨u2,rfl,hz2,hb2⟩;rw[nJ S.out.2.2.2.2.1];rw[nK S.out.2.2.2.2.1]at hz2;obtain⟨A3,n3,c3,rfl,hs3⟩:=hz2;obtain⟨q3,hq3⟩:=aC (aG (a*b));rw[hq3];have G2:=fB hs3 hq3 hb2;clear hs3 hq3;refine hK _ _ ⟨?_,?_⟩;clear hK K;·exact Keeps.of_below hb2 []
   refine lit ?_;clear hb2;refine ay 11 ?_;refine ay 12 ?_;refine eU 13 fun K hK=>?_;gi_wp2;refine Cm (Ei (M:=bP v++M) (z:=a*b) ⟨A3,n3,c3,by rw[G2.out.2.1],G2.out.1⟩) ?_;rintro e w3 ⟨rfl,-,hb3⟩;have hB3:Below wr.heap.size wr w3:=(Below.refl _ wr).drew.trans (G2.out.2.2.trans (hb3.mono G2.out.2.2.size));have hO3:=hO.out.go hB3;have aaZ:=(G2.out.1.go hb3);have hbw3:Below w.heap.size w w3:=hb.trans (hB3.mono hb.size);have aa0:Sl lG (w3.alloc (.cells #[.bool q3,.slice A3 n3 c3] 28)) (bP v++M) (some ⟨w3.heap.size,0,none⟩) 1 1 [jk (a*b)]:=by
    refine Sl.lit (S.out.2.2.1.le (G2.out.2.2.trans (hb3.mono G2.out.2.2.size)).size) _ (cs:= [.bool q3,.slice A3 n3 c3]) rfl (by omega) fun i y hk=>?_
    match i,hk with
    |0,hk=>cases hk;exact⟨_,oI G2.out.2.1 aaZ,fun j u hu=>by match j,hu with|0,hu=>exact hu|1,hu=>exact hu⟩
   obtain⟨i0,hi,hz0,hz1,hz2⟩:=info_parts WY;obtain⟨v4,w4,r1,r2,r3,r4⟩:=(hO3.go (w':=w3.alloc (.cells #[.bool q3,.slice A3 n3 c3] 28)) (by exact bel)).append (ty:=130) (t:=130) (by simp;have:=hbw3.size;omega) underlying130 hi hz0 hz1 rfl H.out.2.1 aa0 (by rw[hz2];omega) (by omega);have RUN:=Hd r1;have R:=fB r2 r3 hbw3;clear aa0 hO3 hB3 aaZ r1 r2 r3 r4 hi hz0 hz1 hz2 hbw3;refine hK _ _ ⟨?_,?_⟩;clear hK K;·exact Keeps.of_below hb3 []
   refine lit ?_;clear hb3;refine eU 14 fun K hK=>?_;gi_wp2;refine⟨Keeps.of_below (by exact bel) _,?_⟩;refine FN 2 (by kernel_rfl) rfl ?_;refine uj fun K hK=>?_;refine oP rfl ?_ (fun K' hK'=>?_);(focus exact wy);refine aI _ _ _ rfl rfl rfl RUN.out (hK' _ _ (hK _ _ ?_));clear hK' K' hK K;refine lit ?_;refine jW fun K hK K' hK'=>?_;gi_wp2;refine tail_nil _ ?_;simp only[cu];gi_wp2;refine⟨⟨k+1,_,rfl,by omega,by rw[show 2*(k+1)=j+2 by have:=HJ.out;omega];go_num,?_,?_⟩,?_⟩;·rw[take_snoc S.out.2.2.2.1,List.map_append];exact R.out.1
   ·exact(R.out.2.2.alloc R.out.2.2.size _).grown R.out.2.1 (by simp;have:=R.out.2.2.size;omega) (fun q hq=>(hO.out.lt hq).1)
   simp[intOf];omega
  ·have hkm:k=m:=by omega
   subst hkm;have hj1:¬j+1<n:=by have:=HNM.out;have:=HJ.out;omega
   obtain⟨O,cO,rfl,hsl⟩:=hO.out.sl (by omega) H.out.2.1;rw[List.take_of_length_le (by rw[H.out.2.2.2.2.2];exact Nat.le_refl _)]at hsl;have HS:=Hd hsl;clear hO hsl hj;gi_wp2;go_ret;exact⟨O,cO,rfl,HS.out,hb⟩
structure FQ(w W:World)(p1 q1 p2 q2:Bool)(u1 v1 u2 v2:Value):Prop where
 a0:W.cell? ⟨w.heap.size,0,none⟩=some (.bool p1)
 a1:W.cell? ⟨w.heap.size,1,none⟩=some (u1)
 a2:W.cell? ⟨w.heap.size,2,none⟩=some (.bool q1)
 a3:W.cell? ⟨w.heap.size,3,none⟩=some (v1)
 b0:W.cell? ⟨w.heap.size+1,0,none⟩=some (.bool p2)
 b1:W.cell? ⟨w.heap.size+1,1,none⟩=some (u2)
 b2:W.cell? ⟨w.heap.size+1,2,none⟩=some (.bool q2)
 b3:W.cell? ⟨w.heap.size+1,3,none⟩=some (v2)
 x0:W.cell? ⟨w.heap.size+1+1,0,none⟩=some (.bool false)
 x1:W.cell? ⟨w.heap.size+1+1,1,none⟩=some (.slice none 0 0)
 x2:W.cell? ⟨w.heap.size+1+1,2,none⟩=some (.bool false)
 x3:W.cell? ⟨w.heap.size+1+1,3,none⟩=some (.slice none 0 0)
 e0:W.cell? ⟨w.heap.size+1+1+1,0,none⟩=some (.int .i64 0)
 WR:W.frozen? ⟨w.heap.size+1+1,0,none⟩=false
 WT:W.frozen? ⟨w.heap.size+1+1,1,none⟩=false
 fx2:W.frozen? ⟨w.heap.size+1+1,2,none⟩=false
 fx3:W.frozen? ⟨w.heap.size+1+1,3,none⟩=false
 Xh:W.frozen? ⟨w.heap.size+1+1+1,0,none⟩=false
 bl:Below w.heap.size w W
 sz:w.heap.size+4<=W.heap.size
theorem FQ.go{w:World}(h:FQ w W p1 q1 p2 q2 u1 v1 u2 v2)(hb:Below W.heap.size W W'):FQ w W' p1 q1 p2 q2 u1 v1 u2 v2:=by have hs:=h.sz;have c:∀(k o:Nat) (u:Value),k<w.heap.size+4->W.cell? ⟨k,o,none⟩=some u->W'.cell? ⟨k,o,none⟩=some u:=fun k o u hk hu=>(hb.cell (p:=⟨k,o,none⟩) (show k<_ by omega)).trans hu;have f:∀(k o:Nat),k<w.heap.size+4->W.frozen? ⟨k,o,none⟩=false->W'.frozen? ⟨k,o,none⟩=false:=fun k o hk hu=>(hb.frozen (p:=⟨k,o,none⟩) (show k<_ by omega)).trans hu;exact⟨c _ _ _ (by omega) h.a0,c _ _ _ (by omega) h.a1,c _ _ _ (by omega) h.a2,c _ _ _ (by omega) h.a3,c _ _ _ (by omega) h.b0,c _ _ _ (by omega) h.b1,c _ _ _ (by omega) h.b2,c _ _ _ (by omega) h.b3,c _ _ _ (by omega) h.x0,c _ _ _ (by omega) h.x1,c _ _ _ (by omega) h.x2,c _ _ _ (by omega) h.x3,c _ _ _ (by omega) h.e0,f _ _ (by omega) h.WR,f _ _ (by omega) h.WT,f _ _ (by omega) h.fx2,f _ _ (by omega) h.fx3,f _ _ (by omega) h.Xh,h.bl.trans (hb.mono h.bl.size),by have:=hb.size;omega⟩
theorem FQ.start(w:World)(p1 q1 p2 q2:Bool)(u1 v1 u2 v2:Value):FQ w (((((w).alloc (.cells #[.bool p1,u1,.bool q1,v1] 30)).alloc (.cells #[.bool p2,u2,.bool q2,v2] 30)).alloc (.cells #[.bool false,.slice none 0 0,.bool false,.slice none 0 0] 30)).alloc (.cells #[.int .i64 0] 31)) p1 q1 p2 q2 u1 v1 u2 v2:=by exact adB
theorem FQ.drew{w W:World}{p1 q1 p2 q2:Bool}{u1 v1 u2 v2:Value}(h:FQ w W p1 q1 p2 q2 u1 v1 u2 v2):FQ w W.drew p1 q1 p2 q2 u1 v1 u2 v2:=⟨h.a0,h.a1,h.a2,h.a3,h.b0,h.b1,h.b2,h.b3,h.x0,h.x1,h.x2,h.x3,h.e0,h.WR,h.WT,h.fx2,h.fx3,h.Xh,h.bl.drew,h.sz⟩
structure FC(w W:World)(p1 q1 p2 q2:Bool)(u1 v1 u2 v2:Value):Prop where
 a0:W.cell? ⟨w.heap.size,0,none⟩=some (.bool p1)
 a1:W.cell? ⟨w.heap.size,1,none⟩=some (u1)
 a2:W.cell? ⟨w.heap.size,2,none⟩=some (.bool q1)
 a3:W.cell? ⟨w.heap.size,3,none⟩=some (v1)
 b0:W.cell? ⟨w.heap.size+1,0,none⟩=some (.bool p2)
 b1:W.cell? ⟨w.heap.size+1,1,none⟩=some (u2)
 b2:W.cell? ⟨w.heap.size+1,2,none⟩=some (.bool q2)
 b3:W.cell? ⟨w.heap.size+1,3,none⟩=some (v2)
 e0:W.cell? ⟨w.heap.size+1+1,0,none⟩=some (.int .i64 0)
 Xh:W.frozen? ⟨w.heap.size+1+1,0,none⟩=false
 bl:Below w.heap.size w W
 sz:w.heap.size+3<=W.heap.size
theorem FC.go{w:World}(h:FC w W p1 q1 p2 q2 u1 v1 u2 v2)(hb:Below W.heap.size W W'):FC w W' p1 q1 p2 q2 u1 v1 u2 v2:=by have hs:=h.sz;have c:∀(k o:Nat) (u:Value),k<w.heap.size+3->W.cell? ⟨k,o,none⟩=some u->W'.cell? ⟨k,o,none⟩=some u:=fun k o u hk hu=>(hb.cell (p:=⟨k,o,none⟩) (show k<_ by omega)).trans hu;have f:∀(k o:Nat),k<w.heap.size+3->W.frozen? ⟨k,o,none⟩=false->W'.frozen? ⟨k,o,none⟩=false:=fun k o hk hu=>(hb.frozen (p:=⟨k,o,none⟩) (show k<_ by omega)).trans hu;exact⟨c _ _ _ (by omega) h.a0,c _ _ _ (by omega) h.a1,c _ _ _ (by omega) h.a2,c _ _ _ (by omega) h.a3,c _ _ _ (by omega) h.b0,c _ _ _ (by omega) h.b1,c _ _ _ (by omega) h.b2,c _ _ _ (by omega) h.b3,c _ _ _ (by omega) h.e0,f _ _ (by omega) h.Xh,h.bl.trans (hb.mono h.bl.size),by have:=hb.size;omega⟩
theorem FC.start(w:World)(p1 q1 p2 q2:Bool)(u1 v1 u2 v2:Value):FC w ((((w).alloc (.cells #[.bool p1,u1,.bool q1,v1] 30)).alloc (.cells #[.bool p2,u2,.bool q2,v2] 30)).alloc (.cells #[.int .i64 0] 31)) p1 q1 p2 q2 u1 v1 u2 v2:=by exact adB
theorem FC.drew{w W:World}{p1 q1 p2 q2:Bool}{u1 v1 u2 v2:Value}(h:FC w W p1 q1 p2 q2 u1 v1 u2 v2):FC w W.drew p1 q1 p2 q2 u1 v1 u2 v2:=⟨h.a0,h.a1,h.a2,h.a3,h.b0,h.b1,h.b2,h.b3,h.e0,h.Xh,h.bl.drew,h.sz⟩
section
variable {w:World}{M:List Nat}
theorem Sl.aa1(hM:b_ M w){a b:Rt}(h1:Sl Int w M A1 n1 c1 (ints (bG a.num)))(h2:Sl Int w M B1 m1 d1 (ints (bG a.den)))(h3:Sl Int w M A2 n2 c2 (ints (bG b.num)))(h4:Sl Int w M B2 m2 d2 (ints (bG b.den))):
 Sl RatR (w.alloc (.cells #[.bool (aG a.num),.slice A1 n1 c1,.bool (aG a.den),.slice B1 m1 d1,.bool (aG b.num),.slice A2 n2 c2,.bool (aG b.den),.slice B2 m2 d2] 30)) M (some ⟨w.heap.size,0,none⟩) 2 2 ([a,b].map jd):=by
 refine Sl.lit hM _ (cs:= [.bool (aG a.num),.slice A1 n1 c1,.bool (aG a.den),.slice B1 m1 d1,.bool (aG b.num),.slice A2 n2 c2,.bool (aG b.den),.slice B2 m2 d2]) rfl (by omega) fun k x hk=>?_
 match k,hk with
 |0,hk=>cases hk;exact⟨_,JB (x:=jd a) h1 h2,fun j u hu=>by exact aeV⟩
 |1,hk=>cases hk;exact⟨_,JB (x:=jd b) h3 h4,fun j u hu=>by exact aeV⟩
structure ZC(w:World)(M:List Nat)(z:Int)(q:Bool)(A:Option Addr)(n c:Nat):Prop where
 neg:aG z=q
 sl:Sl Int w M A n c (ints (bG z))
theorem ZC.go{w w':World}{M:List Nat}{z:Int}{q:Bool}{A:Option Addr}{n c:Nat}(h:ZC w M z q A n c)(hb:Below w.heap.size w w'):ZC w' M z q A n c:=⟨h.neg,h.sl.go hb⟩
theorem Sl.Xn(hM:b_ M w)(h1:ZC w M z1 q1 A1 n1 c1)(h2:ZC w M z2 q2 A2 n2 c2)(h3:ZC w M z3 q3 A3 n3 c3)(h4:ZC w M z4 q4 A4 n4 c4):
 Sl lG (w.alloc (.cells #[.bool q1,.slice A1 n1 c1,.bool q2,.slice A2 n2 c2,.bool q3,.slice A3 n3 c3,.bool q4,.slice A4 n4 c4] 28)) M (some ⟨w.heap.size,0,none⟩) 4 4 ([z1,z2,z3,z4].map jk):=by
 refine Sl.lit hM _ (cs:= [.bool q1,.slice A1 n1 c1,.bool q2,.slice A2 n2 c2,.bool q3,.slice A3 n3 c3,.bool q4,.slice A4 n4 c4]) rfl (by omega) fun k x hk=>?_
 match k,hk with
 |0,hk=>exact aeN
 |1,hk=>exact aeM
 |2,hk=>exact aeP
 |3,hk=>exact aeO
theorem Sl.aa2(hM:b_ M w){z5 z6:Int}{q5 q6:Bool}{A5 A6:Option Addr}{n5 c5 n6 c6:Nat}(h1:ZC w M z1 q1 A1 n1 c1)(h2:ZC w M z2 q2 A2 n2 c2)(h3:ZC w M z3 q3 A3 n3 c3)(h4:ZC w M z4 q4 A4 n4 c4)(h5:ZC w M z5 q5 A5 n5 c5)(h6:ZC w M z6 q6 A6 n6 c6):
 Sl lG (w.alloc (.cells #[.bool q1,.slice A1 n1 c1,.bool q2,.slice A2 n2 c2,.bool q3,.slice A3 n3 c3,.bool q4,.slice A4 n4 c4,.bool q5,.slice A5 n5 c5,.bool q6,.slice A6 n6 c6] 28)) M (some ⟨w.heap.size,0,none⟩) 6 6 ([z1,z2,z3,z4,z5,z6].map jk):=by
 refine Sl.lit hM _ (cs:= [.bool q1,.slice A1 n1 c1,.bool q2,.slice A2 n2 c2,.bool q3,.slice A3 n3 c3,.bool q4,.slice A4 n4 c4,.bool q5,.slice A5 n5 c5,.bool q6,.slice A6 n6 c6]) rfl (by omega) fun k x hk=>?_
 match k,hk with
 |0,hk=>exact aeN
 |1,hk=>exact aeM
 |2,hk=>exact aeP
 |3,hk=>exact aeO
 |4,hk=>cases hk;exact⟨_,oI h5.neg h5.sl,fun j u hu=>by match j,hu with|0,hu=>exact hu|1,hu=>exact hu⟩
 |5,hk=>cases hk;exact⟨_,oI h6.neg h6.sl,fun j u hu=>by match j,hu with|0,hu=>exact hu|1,hu=>exact hu⟩
structure QC(w:World)(M:List Nat)(r:Rt)(p q:Bool)(A:Option Addr)(n c:Nat)(B:Option Addr)(m d:Nat):Prop where
 num:ZC w M r.num p A n c
 den:ZC w M r.den q B m d
theorem QC.go{w w':World}{M:List Nat}{r:Rt}{p q:Bool}{A B:Option Addr}{n c m d:Nat}(h:QC w M r p q A n c B m d)(hb:Below w.heap.size w w'):QC w' M r p q A n c B m d:=⟨h.num.go hb,h.den.go hb⟩
theorem QC.more{w:World}{M:List Nat}{r:Rt}{p q:Bool}{A B:Option Addr}{n c m d b:Nat}(h:QC w M r p q A n c B m d)(hb:w.heap.size<=b):QC w (b::M) r p q A n c B m d:=⟨⟨h.num.neg,h.num.sl.more hb⟩,⟨h.den.neg,h.den.sl.more hb⟩⟩
theorem QC.qw{w:World}{M:List Nat}(h:QC w M r p q A n c B m d):QW w M (.agg #[.bool p,.slice A n c,.bool q,.slice B m d]) r:=⟨A,n,c,B,m,d,by rw[h.num.neg,h.den.neg],h.num.sl,h.den.sl⟩
theorem QC.of{w:World}{M:List Nat}(h:QW w M v r):∃p q A n c B m d,v=.agg #[.bool p,.slice A n c,.bool q,.slice B m d]/\QC w M r p q A n c B m d:=by obtain⟨A,n,c,B,m,d,rfl,h1,h2⟩:=h;exact⟨_,_,A,n,c,B,m,d,rfl,⟨rfl,h1⟩,⟨rfl,h2⟩⟩
theorem Sl.YU(hM:b_ M w){a b:Rt}(h1:QC w M a p1 q1 A1 n1 c1 B1 m1 d1)(h2:QC w M b p2 q2 A2 n2 c2 B2 m2 d2):
 Sl RatR (w.alloc (.cells #[.bool p1,.slice A1 n1 c1,.bool q1,.slice B1 m1 d1,.bool p2,.slice A2 n2 c2,.bool q2,.slice B2 m2 d2] 30)) M (some ⟨w.heap.size,0,none⟩) 2 2 ([a,b].map jd):=by
 rw[<-h1.num.neg,<-h1.den.neg,<-h2.num.neg,<-h2.den.neg];exact Sl.aa1 hM h1.num.sl h1.den.sl h2.num.sl h2.den.sl
end
def QR(w:World)(M:List Nat)(x:Rt)(e:Ending)(w':World):Prop:=∃u,e=.returned (.tuple #[u,.int .i64 0])/\QW w' M u x/\Below w.heap.size w w'
theorem b_.cons{M:List Nat}{w:World}{b:Nat}(h:b_ M w)(hb:b<w.heap.size):b_ (b::M) w:=fun k hk=>by
 rcases List.mem_cons.1 hk with rfl|hk;·exact hb
 exact h k hk
theorem Ou(a b:Rt):tV (a.num*b.den) (b.num*a.den)=rW a b:=rfl
theorem Sl.two{w:World}{M:List Nat}{x:Int}(h:Sl lG w M O 2 c [jk x,jk y]):
 ∃b o p A n k q B m d,O=some ⟨b,o,none⟩/\(w.cell? ⟨b,o,none⟩=some (.bool p)/\w.cell? ⟨b,o+1,none⟩=some (.slice A n k)/\w.cell? ⟨b,o+2,none⟩=some (.bool q)/\w.cell? ⟨b,o+3,none⟩=some (.slice B m d))/\ZC w M x p A n k/\ZC w M y q B m d:=by
 obtain⟨b,o,A,n,k,rfl,h0,h1,h2⟩:=h.LZ (k:=0) (neg:=aG x) (l:=ints (bG x)) rfl;obtain⟨b',o',B,m,d,e,h3,h4,h5⟩:=h.LZ (k:=1) (neg:=aG y) (l:=ints (bG y)) rfl;obtain⟨rfl,rfl⟩:b=b'/\o=o':=by simpa using e
 exact⟨b,o,_,A,n,k,_,B,m,d,rfl,⟨h0,h1,h3,h4⟩,⟨rfl,h2⟩,⟨rfl,h5⟩⟩
theorem Sl.three{w:World}{M:List Nat}{x:Int}(h:Sl lG w M O 3 c [jk x,jk y,jk z]):
 ∃b o p A n k q B m d r E i j,O=some ⟨b,o,none⟩/\(w.cell? ⟨b,o,none⟩=some (.bool p)/\w.cell? ⟨b,o+1,none⟩=some (.slice A n k)/\w.cell? ⟨b,o+2,none⟩=some (.bool q)/\w.cell? ⟨b,o+3,none⟩=some (.slice B m d)/\w.cell? ⟨b,o+4,none⟩=some (.bool r)/\w.cell? ⟨b,o+5,none⟩=some (.slice E i j))/\ZC w M x p A n k/\ZC w M y q B m d/\ZC w M z r E i j:=by
 obtain⟨b,o,A,n,k,rfl,h0,h1,h2⟩:=h.LZ (k:=0) (neg:=aG x) (l:=ints (bG x)) rfl;obtain⟨b',o',B,m,d,e,h3,h4,h5⟩:=h.LZ (k:=1) (neg:=aG y) (l:=ints (bG y)) rfl;obtain⟨b2,o2,E,i,j,e2,h6,h7,h8⟩:=h.LZ (k:=2) (neg:=aG z) (l:=ints (bG z)) rfl;obtain⟨rfl,rfl⟩:b=b'/\o=o':=by simpa using e
 obtain⟨rfl,rfl⟩:b=b2/\o=o2:=by simpa using e2
 exact⟨b,o,_,A,n,k,_,B,m,d,_,E,i,j,rfl,⟨h0,h1,h3,h4,h6,h7⟩,⟨rfl,h2⟩,⟨rfl,h5⟩,⟨rfl,h8⟩⟩
theorem ZC.zv{w:World}{M:List Nat}(h:ZC w M z q A n c):ZV w M (.agg #[.bool q,.slice A n c]) z:=⟨A,n,c,by rw[h.neg],h.sl⟩
theorem ZC.drew{w:World}{M:List Nat}{z:Int}{q:Bool}{A:Option Addr}{n c:Nat}(h:ZC w M z q A n c):ZC w.drew M z q A n c:=⟨h.neg,h.sl.keep (Keeps.refl _ _).drew⟩
theorem ZC.of{w:World}{M:List Nat}(h:ZV w M v z):∃q A n c,v=.agg #[.bool q,.slice A n c]/\ZC w M z q A n c:=by obtain⟨A,n,c,rfl,h⟩:=h;exact⟨_,A,n,c,rfl,⟨rfl,h⟩⟩
theorem Ov{M:List Nat}{a b:Rt}{w:World}(hM:b_ M w)(ha:QW w M va a)(hb:QW w M vb b)(oa:a.ok)(ob:b.ok)(hf:Fine a b):
 Calls prog 87 #[va,vb] w (CR w (rW a b)):=by
 refine wid ?_;obtain⟨p1,q1,A1,n1,c1,B1,m1,d1,rfl,qa⟩:=QC.of ha;obtain⟨p2,q2,A2,n2,c2,B2,m2,d2,rfl,qb⟩:=QC.of hb;obtain⟨W1,hW1⟩:=aC ((((w).alloc (.cells #[.bool p1,.slice A1 n1 c1,.bool q1,.slice B1 m1 d1] 30)).alloc (.cells #[.bool p2,.slice A2 n2 c2,.bool q2,.slice B2 m2 d2] 30)).alloc (.cells #[.int .i64 0] 31));have F1:FC w W1 p1 q1 p2 q2 (.slice A1 n1 c1) (.slice B1 m1 d1) (.slice A2 n2 c2) (.slice B2 m2 d2):=by rw[<-hW1];exact FC.start w _ _ _ _ _ _ _ _
 have ha2:QC W1 ((w.heap.size+1+1)::M) a p1 q1 A1 n1 c1 B1 m1 d1:=(qa.more (b:=w.heap.size+1+1) (by omega)).go F1.bl;have hb2:QC W1 ((w.heap.size+1+1)::M) b p2 q2 A2 n2 c2 B2 m2 d2:=(qb.more (b:=w.heap.size+1+1) (by omega)).go F1.bl;have hM2:b_ ((w.heap.size+1+1)::M) W1:=(hM.le F1.bl.size).cons (by have:=F1.sz;omega);have SV:=Sl.YU hM2 ha2 hb2;have X:=fB ha2 hb2 hM2;have Zq:=Hd SV;have HO:=fB oa ob hf;have F:=Hd F1;have dJ:=F1;obtain⟨T_,Ua,ea2,ea3,Ub,Uc,eb2,eb3,ee0,Zr,-,-⟩:=dJ;clear ha hb qa qb ha2 hb2 hM hM2 SV oa ob hf;refine qj func87 rfl ntmps87 ?_
 gi_wp2_with (first
  |(refine⟨trivial,?_⟩;gi_at_call 83;have g:=G2.out;clear g;refine Cn (rM (M:=(w.heap.size+1+1)::M) _ 4 4 2 [a.num,b.den,b.num,a.den] _ ((X.out.2.2.le G2.out.2.size).le (by simp)) (Sl.Xn (X.out.2.2.le G2.out.2.size) (X.out.1.go G2.out.2).num (X.out.2.1.go G2.out.2).den (X.out.2.1.go G2.out.2).num (X.out.1.go G2.out.2).den) (by simp[HO.out.1.fn,HO.out.1.fd,HO.out.2.1.fn,HO.out.2.1.fd]) (by simp[mW,HO.out.2.2.nd,HO.out.2.2.dn,HO.out.2.2.dd,HO.out.2.2.nn]) rfl (by omega)) ?_;rintro e w4 ⟨O,cO,rfl,hs4,hb4⟩;have hb5:Below W1.heap.size W1 w4:=(G2.out.2.alloc G2.out.2.size _).trans (hb4.mono (by simp;have:=G2.out.2.size;omega));have F4:=F.out.go hb5;have Ox:=F4.drew;have dJ:=Ox;obtain⟨Oi,Oj,ya2,ya3,Ol,Om,yb2,yb3,ye0,aa3,-,-⟩:=dJ;obtain⟨b0,o0,s1,S1,i1,j1,s2,S2,i2,j2,rfl,⟨c0,k1,k2,k3⟩,hz1,hz2⟩:=Sl.two hs4;have G4:=h_ Ox hz1 hz2 ((X.out.2.2.le hb5.size).le (w':=w4.drew) (Nat.le_refl _));clear hb4 hb5 F4 Ox)
  |(refine Cl 82 (uO (M:=(w.heap.size+1+1)::M) _ 2 2 [a,b] _ (X.out.2.2.le (by simp)) Zq.out (by simp[HO.out.1,HO.out.2.1])) ?_;rintro e w2 ⟨rfl,hb2⟩;have hb3:Below W1.heap.size W1 w2:=((Below.refl W1.heap.size W1).alloc (Nat.le_refl _) _).trans (hb2.mono (by simp));have F2:=F.out.go hb3;have dJ:=F2;obtain⟨YN,YO,ua2,ua3,YP,Td,ub2,ub3,ue0,YV,-,-⟩:=dJ;have G2:=Hd2 F2 hb3;clear hb2 hb3 F2)
  |fail)
 have v0:=ah c0;have v1:=ah k1;have v2:=ah k2;have v3:=ah k3;clear c0 k1 k2 k3;refine aP [] 10 (by kernel_rfl) (by kernel_rfl) ?_;refine ay 0 ?_;refine ay 1 ?_;refine ay 2 ?_;refine ay 3 ?_;refine ay 4 ?_;refine ay 5 ?_;refine eU 6 fun K hK=>?_;gi_wp2;refine Cm (WQ (a:=a.num*b.den) (b:=b.num*a.den) G4.out.2.2.2 G4.out.2.1.drew.zv G4.out.2.2.1.drew.zv HO.out.2.2.nd HO.out.2.2.dn) ?_;rintro e w5 ⟨rfl,hb5⟩;have F5:=G4.out.1.go hb5;have dJ:=F5;obtain⟨ta0,ta1,ta2,ta3,tb0,tb1,tb2,tb3,Xo,Zt,-,-⟩:=dJ;have G5:=Hd F5;clear F5;refine hK _ _ ⟨?_,?_⟩;clear hK K;·exact Keeps.of_below hb5 []
 refine lit ?_;clear hb5;refine ay 7 ?_;refine ay 8 ?_;refine eU 9 fun K hK=>?_;gi_wp2;refine Cm (WJ _ _) ?_;rintro e w6 ⟨rfl,rfl⟩;refine hK _ _ ⟨?_,?_⟩;clear hK K;·exact Keeps.refl _ _
 refine lit ?_;refine iq 2 ?_;refine jW fun K hK K' hK'=>?_;gi_wp2;refine jW fun K hK K' hK'=>?_;gi_wp2;refine tail_nil _ ?_;simp only[cu];gi_wp2;refine leavesIn_cons (f:=81) (args:=#[.pointer (some ⟨w.heap.size+1+1,0,none⟩)]) (by simp) (by simp) (by simp[go_sem]) (fun _ _=>trivial) ?_;refine(kT ⟨w.heap.size+1+1,0,none⟩ _).mono ?_;rintro e u' w'' ⟨rfl,rfl,rfl⟩;have r2:=cZ (u:=.int .i64 0) Xo;refine⟨.tuple #[.int .i64 (rW a b),.int .i64 0],?_,rfl,G5.out.bl.setCell (p:=⟨w.heap.size+1+1,0,none⟩) (by simp;omega) _⟩;rw[<-Ou];simp[results,results87,go_sem,Xo]
theorem W_{M:List Nat}{w:World}(hM:b_ M w)(ha:ZV w M va a)(hb:ZV w M vb b)(fa:fits a=true)(fb:fits b=true):
 Calls prog 31 #[va,vb] w (ZQ w M (Int.gcd a b)):=by
 refine wid ?_;obtain⟨A,n,c,rfl,hx⟩:=ha;obtain⟨B,m,d,rfl,hy⟩:=hb;have hf:=tK fa fb;have hn:=yG fa hx.eu;have hm:=yG fb hy.eu;obtain⟨na,hna⟩:=aC (aG a);obtain⟨nb,hnb⟩:=aC (aG b);rw[hna,hnb];obtain⟨W1,hW1,F1,hx2,hy2,hM2⟩:=FZ.begin (na:=na) (nb:=nb) hM hx hy;have X:=fB hx2 hy2 hM2;have HN:=Hd2 hna hnb;have HF:=Hd2 fa fb;have Ny:=Hd hf;have F:=Hd F1;have dJ:=F1;obtain⟨T_,Ua,Ub,Uc,Zj,Zk,EN,EO,-,-⟩:=dJ;clear hx hy hM hx2 hy2 hM2 fa fb hna hnb hf;refine ent func31 rfl ntmps31 ?_;gi_wp2_with ((refine Cl 61 (two_any (a:=a) (b:=b) (M:=(w.heap.size+1+1)::M) ⟨A,n,c,by rw[HN.out.1],X.out.1⟩ ⟨B,m,d,by rw[HN.out.2],X.out.2.1⟩ HF.out.1 HF.out.2) ?_;rintro e w2 ⟨rfl,hb2⟩;have F2:=F.out.go hb2;have dJ:=F2;obtain⟨YN,YO,YP,Td,Sr,Sv,YW,YX,-,-⟩:=dJ;have G2:=Hd2 F2 hb2;clear hb2 F2))
 have G3:=h_ G2.out.1 (X.out.1.go G2.out.2) (X.out.2.1.go G2.out.2) (X.out.2.2.le G2.out.2.size);gi_loopg[7,8] (b.natAbs) (fun y s6 s7 wr=>∃(x:Nat) (A':Option Addr) (n' c':Nat) (B':Option Addr) (m' d':Nat),s6=.slice A' n' c'/\s7=.slice B' m' d'/\n'<=2048/\m'<=2048/\Hid (Nat.gcd x y=Int.gcd a b/\FZ w wr na nb (.slice A n c) (.slice B m d)/\Sl Int wr ((w.heap.size+1+1)::M) A' n' c' (ints (bC x))/\Sl Int wr ((w.heap.size+1+1)::M) B' m' d' (ints (bC y))/\b_ ((w.heap.size+1+1)::M) wr));case atStart=>exact⟨a.natAbs,A,n,c,B,m,d,rfl,rfl,hn,hm,rfl,G3.out⟩
 case round=>
  obtain⟨x,A',n',c',B',m',d',rfl,rfl,hn',hm',hr⟩:=hrel;have hm0:=hr.out.2.2.2.1.eu;by_cases h0:m'=0
  ·subst h0;have hy0:gk=0:=jO.1 (List.length_eq_zero_iff.1 hm0);subst hy0;have hg:gJ false x=(Int.gcd a b:Int):=by
    have:=hr.out.1;rw[Nat.gcd_zero_right]at this;rw[<-this];rfl
   clear hm0;gi_wp2_with (refine Cl 63 (zL (v:=x) (z:=(Int.gcd a b:Int)) hr.out.2.2.2.2 hr.out.2.2.1 (aO _) (bI _) hg Ny.out) ?_;rintro e w3 ⟨q,A4,n4,c4,rfl,Ie,hb3⟩;have F4:=hr.out.2.1.go hb3;have dJ:=F4;obtain⟨sa0,sa1,sb0,sb1,I_,Jg,Jh,Ji,-,-⟩:=dJ;have G4:=Hd2 F4 Ie;clear hb3 Ie F4)
   obtain⟨wF,hwF,r0,r1,hz,Az⟩:=fin2 (M:=M) I_ Jg G4.out.2 G4.out.1.bl (by omega);rw[hwF];refine⟨rfl,.tuple #[.agg #[.bool q,.slice A4 n4 c4],.int .i64 0],by simp[results,go_sem,r0,r1],_,rfl,hz,Az⟩
  ·have hy0:0<gk:=by
     exact aeU
   have hpos:0<m':=by omega
   have HM0:=Hd hm0;clear hm0;gi_wp2_with (refine Cl 62 (MF (x:=x) (y:=gk) hr.out.2.2.2.2 hr.out.2.2.1 hr.out.2.2.2.1 (by omega) (by omega) hy0) ?_;rintro e w3 ⟨O,q,cO,O2,q2,Z7,rfl,h1,h2,hb3⟩;have G4:=Hd2 h2 hb3;clear h1 h2 hb3)
   exact adu
theorem Xq{w V:World}{M:List Nat}{b e:Nat}{u0 u3:Value}(h0:V.cell? ⟨b,0,none⟩=some u0)(h1:V.cell? ⟨b,1,none⟩=some u1)(h2:V.cell? ⟨e,0,none⟩=some u2)(h3:V.cell? ⟨e,1,none⟩=some u3)
 (hz:ZC V (b::e::M) z q A n c) (hy:ZC V (b::e::M) y p B m d) (hne:b≠e) (hb:Below s w V) (hsb:s<=b) (hse:s<=e):
 ∃wF,(((V.setCell ⟨b,0,none⟩ (.bool q)).setCell ⟨b,1,none⟩ (.slice A n c)).setCell ⟨e,0,none⟩ (.bool p)).setCell ⟨e,1,none⟩ (.slice B m d)=wF/\wF.cell? ⟨b,0,none⟩=some (.bool q)/\wF.cell? ⟨b,1,none⟩=some (.slice A n c)/\wF.cell? ⟨e,0,none⟩=some (.bool p)/\wF.cell? ⟨e,1,none⟩=some (.slice B m d)/\ZV wF M (.agg #[.bool q,.slice A n c]) z/\ZV wF M (.agg #[.bool p,.slice B m d]) y/\Below s w wF:=by
 have kp:=((((Keeps.refl (b::e::M) V).setCell (p:=⟨b,0,none⟩) (.inl (by simp)) (.bool q)).setCell (p:=⟨b,1,none⟩) (.inl (by simp)) (.slice A n c)).setCell (p:=⟨e,0,none⟩) (.inl (by simp)) (.bool p)).setCell (p:=⟨e,1,none⟩) (.inl (by simp)) (.slice B m d);have hne2:¬b=e:=hne;have WO:¬e=b:=fun g=>hne g.symm;have hl:∀k,k∈M->k∈b::e::M:=fun k hk=>by simp[hk]
 refine⟨_,rfl,?_,?_,?_,?_,⟨A,n,c,by rw[hz.neg],(hz.sl.keep kp).less hl⟩,⟨B,m,d,by rw[hy.neg],(hy.sl.keep kp).less hl⟩,?_⟩;·simp[go_sem,h0,h1,h2,h3,hne2,WO]
 ·simp[go_sem,h0,h1,h2,h3,hne2,WO]
 ·simp[go_sem,h0,h1,h2,h3,hne2,WO]
 ·simp[go_sem,h0,h1,h2,h3,hne2,WO]
 ·exact(((hb.setCell (p:=⟨b,0,none⟩) hsb _).setCell (p:=⟨b,1,none⟩) hsb _).setCell (p:=⟨e,0,none⟩) hse _).setCell (p:=⟨e,1,none⟩) hse _
structure FD(w W:World)(na nb:Bool)(va vb:Value):Prop where
 a0:W.cell? ⟨w.heap.size,0,none⟩=some (.bool na)
 a1:W.cell? ⟨w.heap.size,1,none⟩=some (va)
 b0:W.cell? ⟨w.heap.size+1,0,none⟩=some (.bool nb)
 b1:W.cell? ⟨w.heap.size+1,1,none⟩=some (vb)
 x0:W.cell? ⟨w.heap.size+1+1,0,none⟩=some (.bool false)
 x1:W.cell? ⟨w.heap.size+1+1,1,none⟩=some (.slice none 0 0)
 y0:W.cell? ⟨w.heap.size+1+1+1,0,none⟩=some (.bool false)
 y1:W.cell? ⟨w.heap.size+1+1+1,1,none⟩=some (.slice none 0 0)
 WR:W.frozen? ⟨w.heap.size+1+1,0,none⟩=false
 WT:W.frozen? ⟨w.heap.size+1+1,1,none⟩=false
 fy0:W.frozen? ⟨w.heap.size+1+1+1,0,none⟩=false
 fy1:W.frozen? ⟨w.heap.size+1+1+1,1,none⟩=false
 bl:Below w.heap.size w W
 sz:w.heap.size+4<=W.heap.size
theorem FD.go{w:World}{na nb:Bool}(h:FD w W na nb va vb)(hb:Below W.heap.size W W'):FD w W' na nb va vb:=by have hs:=h.sz;have c:∀(k o:Nat) (u:Value),k<w.heap.size+4->W.cell? ⟨k,o,none⟩=some u->W'.cell? ⟨k,o,none⟩=some u:=fun k o u hk hu=>(hb.cell (p:=⟨k,o,none⟩) (show k<_ by omega)).trans hu;have f:∀(k o:Nat),k<w.heap.size+4->W.frozen? ⟨k,o,none⟩=false->W'.frozen? ⟨k,o,none⟩=false:=fun k o hk hu=>(hb.frozen (p:=⟨k,o,none⟩) (show k<_ by omega)).trans hu;exact⟨c _ _ _ (by omega) h.a0,c _ _ _ (by omega) h.a1,c _ _ _ (by omega) h.b0,c _ _ _ (by omega) h.b1,c _ _ _ (by omega) h.x0,c _ _ _ (by omega) h.x1,c _ _ _ (by omega) h.y0,c _ _ _ (by omega) h.y1,f _ _ (by omega) h.WR,f _ _ (by omega) h.WT,f _ _ (by omega) h.fy0,f _ _ (by omega) h.fy1,h.bl.trans (hb.mono h.bl.size),by have:=hb.size;omega⟩
theorem FD.start(w:World)(na nb:Bool)(va vb:Value):FD w (((((w).alloc (.cells #[.bool na,va] 28)).alloc (.cells #[.bool nb,vb] 28)).alloc (.cells #[.bool false,.slice none 0 0] 28)).alloc (.cells #[.bool false,.slice none 0 0] 28)) na nb va vb:=by exact adB
theorem FD.drew{w W:World}{na nb:Bool}{va vb:Value}(h:FD w W na nb va vb):FD w W.drew na nb va vb:=⟨h.a0,h.a1,h.b0,h.b1,h.x0,h.x1,h.y0,h.y1,h.WR,h.WT,h.fy0,h.fy1,h.bl.drew,h.sz⟩
theorem ZV.zc{w:World}{M:List Nat}(h:ZV w M (.agg #[.bool q,.slice A n c]) z):ZC w M z q A n c:=by obtain⟨A',n',c',e,h⟩:=h;simp only[Value.agg.injEq,Array.mk.injEq,List.cons.injEq,Value.bool.injEq,Value.slice.injEq,and_true]at e;obtain⟨rfl,rfl,rfl,rfl⟩:=e;exact⟨rfl,h⟩
theorem Dl{M:List Nat}{w:World}(hM:b_ M w)(ha:ZV w M va a)(hb:ZV w M vb b)(fa:fits a=true)(fb:fits b=true)(hp:0<b)(h0:a.natAbs%b.natAbs=0):
 Calls prog 105 #[va,vb] w fun e w'=>∃u v,e=.returned (.tuple #[u,v,.int .i64 0])/\ZV w' M u (a/b)/\ZV w' M v 0/\Below w.heap.size w w':=by
 refine wid ?_;obtain⟨A,n,c,rfl,hx⟩:=ha;obtain⟨B,m,d,rfl,hy⟩:=hb;have hn:=yG fa hx.eu;have hm:=yG fb hy.eu;have hm1:=hy.eu;have hm0:¬m=0:=by intro e;rw[e]at hm1;have:=jO.1 (List.length_eq_zero_iff.1 hm1);omega
 have hzb:aG b=false:=decide_eq_false (by omega);have hr:=(SI (a:=a) (b:=b) (.inl h0) (by omega)).1;have hf:fits (a/b)=true:=by exact ad2
 have hy0:0<b.natAbs:=by omega
 obtain⟨na,hna⟩:=aC (aG a);rw[hzb,hna]at hr;rw[hna,hzb];obtain⟨MM,MX⟩:=aC ((w.heap.size+1+1)::(w.heap.size+1+1+1)::M);obtain⟨W1,hW1⟩:=aC (((((w).alloc (.cells #[.bool na,.slice A n c] 28)).alloc (.cells #[.bool false,.slice B m d] 28)).alloc (.cells #[.bool false,.slice none 0 0] 28)).alloc (.cells #[.bool false,.slice none 0 0] 28));have F1:FD w W1 na false (.slice A n c) (.slice B m d):=by rw[<-hW1];exact FD.start w _ _ _ _
 have hx2:Sl Int W1 MM A n c (ints (bG a)):=by rw[<-MX];exact((hx.more (b:=w.heap.size+1+1+1) (by omega)).more (b:=w.heap.size+1+1) (by omega)).go F1.bl
 have hy2:Sl Int W1 MM B m d (ints (bG b)):=by rw[<-MX];exact((hy.more (b:=w.heap.size+1+1+1) (by omega)).more (b:=w.heap.size+1+1) (by omega)).go F1.bl
 have hM2:b_ MM W1:=by exact aea
 have X:=fB hx2 hy2 hM2;have HN:=Hd2 hna hzb;have HF:=Hd5 fa fb hf hy0 h0;have HR:=Hd hr;have QG:=Hd MX;have HZ0:=Hd2 (show gJ false 0=0 from rfl) (pF (z:=0) (k:=1) (by decide) (by omega));have F:=Hd F1;have dJ:=F1;obtain⟨T_,Ua,Ub,Uc,Zj,Zk,ey0,ey1,EN,EO,acs,acu,-,-⟩:=dJ;clear hx hy hM hx2 hy2 hM2 fa fb hna hzb hf hr hm1 MX h0 hp;cases na;all_goals(
 refine ent func105 rfl ntmps105 ?_
 gi_wp2_with (first
  |(refine⟨trivial,?_⟩;gi_at_call 63;have g:=G4.out;clear g;refine Cn (zL (v:=0) (z:=0) (X.out.2.2.le G4.out.2.2.1.size) (G3.out.2.2.1.go G4.out.2.1) (aO 0) (bI 0) HZ0.out.1 HZ0.out.2) ?_;rintro e w6 ⟨q6,A6,n6,c6,rfl,hz6,hb6⟩;obtain⟨W7,XM⟩:=aC (w6.alloc (.cells #[.bool q6,.slice A6 n6 c6] 28));have hb7:Below w6.heap.size w6 W7:=by rw[<-XM];exact bel
    have F7:=(G4.out.1.go hb6).go hb7;have hnc:w4.heap.size<W5.heap.size:=G4.out.2.2.2.2;have hnd:w4.heap.size<w6.heap.size:=by have:=hb6.size;omega
    have m0:=(hb7.cell (p:=⟨w4.heap.size,0,none⟩) hnd).trans ((hb6.cell (p:=⟨w4.heap.size,0,none⟩) hnc).trans N0);have m1:=(hb7.cell (p:=⟨w4.heap.size,1,none⟩) hnd).trans ((hb6.cell (p:=⟨w4.heap.size,1,none⟩) hnc).trans N1);have l0:W7.cell? ⟨w6.heap.size,0,none⟩=some (.bool q6):=by rw[<-XM];simp[go_sem]
    have l1:W7.cell? ⟨w6.heap.size,1,none⟩=some (.slice A6 n6 c6):=by rw[<-XM];simp[go_sem]
    have hnn:w.heap.size+4<=w6.heap.size:=Nat.le_trans G4.out.1.sz hb6.size;have hn4:=HW4.out;have v0:=aF (Mr:= [w.heap.size+1+1]) (by simp;omega) m0;have v1:=aF (Mr:= [w.heap.size+1+1]) (by simp;omega) m1;have v2:=aF (Mr:= [w.heap.size+1+1]) (by simp;omega) l0;have v3:=aF (Mr:= [w.heap.size+1+1]) (by simp;omega) l1;have F7d:=F7.drew;have dJ:=F7d;obtain⟨sa0,sa1,sb0,sb1,I_,Jg,sy0,sy1,Jh,Ji,acv,acw,-,-⟩:=dJ;have dJ:=F7;obtain⟨pa0,pa1,pb0,pb1,px0,px1,py0,py1,acy,acz,acA,acB,-,-⟩:=dJ;have G7:=fB F7d (show ZV W7.drew MM (.agg #[.bool q4,.slice A4 n4 c4]) (a/b)from by
     have h:=(G4.out.2.2.2.1.go hb6).go hb7;obtain⟨A',n',c',e',hs'⟩:=h;exact⟨A',n',c',e',hs'.keep (Keeps.refl _ _).drew⟩) (show ZV W7.drew MM (.agg #[.bool q6,.slice A6 n6 c6]) 0 from by
     have h:=hz6.go hb7;obtain⟨A',n',c',e',hs'⟩:=h;exact⟨A',n',c',e',hs'.keep (Keeps.refl _ _).drew⟩)
    clear hz6 hb6 hb7 F7 F7d hnc hnd m0 m1 l0 l1 hnn hn4)
  |(refine⟨trivial,?_⟩;gi_at_call 63;have g:=G3.out;clear g;refine Cn (zL (v:=a.natAbs/b.natAbs) (z:=a/b) (X.out.2.2.le G3.out.2.2.2.size) G3.out.2.1 (aO _) (bI _) HR.out HF.out.2.2.1) ?_;rintro e w4 ⟨q4,A4,n4,c4,rfl,Ie,hb4⟩;obtain⟨W5,CZ⟩:=aC (w4.alloc (.cells #[.bool q4,.slice A4 n4 c4] 28));have hb5:Below w4.heap.size w4 W5:=by rw[<-CZ];exact bel
    have hs5:w4.heap.size<W5.heap.size:=by rw[<-CZ];simp
    have F4:=(G3.out.1.go hb4).go hb5;have N0:W5.cell? ⟨w4.heap.size,0,none⟩=some (.bool q4):=by rw[<-CZ];simp[go_sem]
    have N1:W5.cell? ⟨w4.heap.size,1,none⟩=some (.slice A4 n4 c4):=by rw[<-CZ];simp[go_sem]
    have G4:=Hd5 F4 (hb4.trans (hb5.mono hb4.size)) (G3.out.2.2.2.trans ((hb4.trans (hb5.mono hb4.size)).mono G3.out.2.2.2.size)) (Ie.go hb5) hs5;have HW4:=Hd (Nat.le_trans G3.out.1.sz hb4.size);clear Ie hb4 hb5 hs5 F4)
  |(refine Cl 62 (MF (x:=a.natAbs) (y:=b.natAbs) (X.out.2.2.le G2.out.2.size) (X.out.1.go G2.out.2) (X.out.2.1.go G2.out.2) hn hm HF.out.2.2.2.1) ?_;rintro e w3 ⟨O,q3,cO,O2,q2,Z7,rfl,h1,h2,hb3⟩;rw[HF.out.2.2.2.2]at h2;have hq2:q2=0:=by have:=h2.eu;rw[bU]at this;simpa using this.symm
    subst hq2;have F3:=G2.out.1.go hb3;have dJ:=F3;obtain⟨ta0,ta1,tb0,tb1,V8,V9,ty0,ty1,Oo,Oq,acC,acD,-,-⟩:=dJ;have G3:=h_ F3 h1 h2 (G2.out.2.trans (hb3.mono G2.out.2.size));clear h1 h2 hb3 F3)
  |(refine Cl 61 (two_any (a:=a) (b:=b) (M:=MM) ⟨A,n,c,by rw[HN.out.1],X.out.1⟩ ⟨B,m,d,by rw[HN.out.2],X.out.2.1⟩ HF.out.1 HF.out.2.1) ?_;rintro e w2 ⟨rfl,hb2⟩;have F2:=F.out.go hb2;have dJ:=F2;obtain⟨YN,YO,YP,Td,Sr,Sv,uy0,uy1,YW,YX,acE,acF,-,-⟩:=dJ;have G2:=Hd2 F2 hb2;clear hb2 F2)
  |fail)
 refine aP [w.heap.size+1+1] 3 (by kernel_rfl) (by kernel_rfl) ?_;refine ay 0 ?_;refine ay 1 ?_;refine eU 2 fun K hK=>?_;gi_wp2;refine⟨((((Keeps.refl [w.heap.size+1+1] W7).setCell (p:=⟨w.heap.size+1+1,0,none⟩) (.inl (by simp)) (.bool q4)).setCell (p:=⟨w.heap.size+1+1,1,none⟩) (.inl (by simp)) (.slice A4 n4 c4)).drew).Nq,?_⟩;refine iq 2 ?_;refine jW fun K hK K' hK'=>?_;gi_wp2;refine jW fun K hK K' hK'=>?_;gi_wp2;refine tail_nil _ ?_;simp only[cu];gi_wp2;have z1:=G7.out.2.1;have z2:=G7.out.2.2;rw[<-QG.out]at z1 z2;obtain⟨wF,hwF,r0,r1,r2,r3,hz1,hz2,Az⟩:=Xq (M:=M) I_ Jg sy0 sy1 z1.zc z2.zc (by omega) G7.out.1.bl (by omega) (by omega);have Oy:World.drew ((((W7.setCell ⟨w.heap.size+1+1,0,none⟩ (.bool q4)).setCell ⟨w.heap.size+1+1,1,none⟩ (.slice A4 n4 c4)).setCell ⟨w.heap.size+1+1+1,0,none⟩ (.bool q6)).setCell ⟨w.heap.size+1+1+1,1,none⟩ (.slice A6 n6 c6))=wF:=hwF;rw[Oy];exact⟨rfl,.tuple #[.agg #[.bool q4,.slice A4 n4 c4],.agg #[.bool q6,.slice A6 n6 c6],.int .i64 0],by simp[results,go_sem,r0,r1,r2,r3],_,_,rfl,hz1,hz2,Az⟩)
end
end Go.Proofs.YtefnknhjlejalaaGreatDoor
