/- Lemmas and walks; no statement is proved here. -/
import Derived.RecoverIn
import Derived.Test.YtefnknhjlejalaaGreatDoorM11
set_option linter.unusedVariables false
set_option linter.unusedSimpArgs false
set_option maxRecDepth 20000
set_option maxHeartbeats 6000000
namespace Go.Proofs.YtefnknhjlejalaaGreatDoor
open Go.Proofs.Tryz Go.RowKit Go.Shelf
theorem ado{p:Prop}(h:p:=by refine⟨(ZV.BJ S.out.1 hq ht S.out.2.2.1 ((Keeps.of_below hb2 _).trans (((Keeps.refl _ _).setCell (p:=⟨w.heap.size,0,none⟩) (.inl (by simp)) _).setCell (p:=⟨w.heap.size,1,none⟩) (.inl (by simp)) _))).less (fun k hk=>List.mem_cons_of_mem _ hk),?_⟩;exact((B.out.1.trans (hb2.mono (by rw[B.out.2.1];omega))).setCell (p:=⟨w.heap.size,0,none⟩) (Nat.le_refl _) _).setCell (p:=⟨w.heap.size,1,none⟩) (Nat.le_refl _) _):p:=h
theorem adv{p:Prop}(h:p:=by obtain⟨z1,z2⟩:=G3.out.1.fin G3.out.2;exact⟨.agg #[.bool q,.slice A4 n4 c4],by simp[results,go_sem,c0,c1],fun _=>⟨q,A4,n4,c4,rfl,z1⟩,(fun h=>by cases h),z2⟩):p:=h
theorem adD{p:Prop}(h:p:=by have h:=HF.out;rw[<-S.out.2.2.1,<-ht,List.length_take,HL.out]at h;omega):p:=h
theorem ad2{p:Prop}(h:p:=by
 refine jZ ?_ fa;rw[<-hr];have:(gJ (aG a !=aG b) (a.natAbs/b.natAbs)).natAbs=a.natAbs/b.natAbs:=by generalize a.natAbs/b.natAbs=k;unfold gJ;split<;>omega
 rw[this];exact Nat.div_le_self _ _):p:=h
theorem ad3{p:Prop}(h:p:=by
 simp only[List.mem_cons]at hk;rcases hk with rfl|rfl|hk;·omega
 ·omega
 have:=hM k hk;omega):p:=h
theorem ad6{p:Prop}(h:p:=by
 refine ent func39 rfl ntmps39 ?_;gi_wp2_with (first|(refine Cl 76 (lK _ _ c l _ H1.out) ?_;rintro e w2 ⟨rfl,rfl⟩;rw[HQ.out])|(refine⟨trivial,?_⟩))
 go_ret;exact⟨rfl,B1.out⟩):p:=h
theorem ad8{p:Prop}(h:p:=by
 refine ent func39 rfl ntmps39 ?_;gi_wp2_with (refine⟨trivial,?_⟩)
 go_ret;exact⟨rfl,B1.out⟩):p:=h
theorem aej{p:Prop}(h:p:=by rw[h2];clear h2;refine ent func75 rfl ntmps75 ?_;gi_wp2;go_ret;exact⟨rfl,rfl⟩):p:=h
theorem aex{p:Prop}(h:p:=by have c0:=h.x0;have c1:=h.x1;have c2:=h.e0;simp[go_sem,c0,c1,c2]):p:=h
theorem aeA{p:Prop}(h:p:=by refine ent func29 rfl ntmps29 ?_;gi_wp2;go_ret;exact⟨rfl,B1.out⟩):p:=h
variable {M l:List Nat}{neg q na nb:Bool}{w W W' w4:World}{A B:Option Addr}{c k v y m d:Nat}{z a b:Int}{va vb:Value}
section
attribute [local go_sem] Oper.semAt_some
def nI(d:Int):Bool:=decide (d<0)||decide (1073741823<d)
theorem YJ(l:List Int):l.any nI= !(l.all fun d=>decide (0<=d/\d<(BB:Int))):=by
 induction l with
 |nil=>rfl
 |cons d r ih=>
  rw[List.any_cons,List.all_cons,ih,Bool.not_and];congr 1;unfold nI;rw[<-V6];by_cases h1:d<0
  ·have:¬(0<=d/\d<1073741824):=by omega
   rw[decide_eq_false this,decide_eq_true h1];rfl
  ·by_cases h2:1073741823<d
   ·have:¬(0<=d/\d<1073741824):=by omega
    rw[decide_eq_false this,decide_eq_true h2,Bool.or_true];rfl
   have:0<=d/\d<1073741824:=by omega
   rw[decide_eq_true this,decide_eq_false h2,decide_eq_false h1];rfl
theorem Ed(d:Int)(w:World):Calls prog 75 #[.int .i64 d] w fun e w'=>e=.returned (.bool (nI d))/\w=w':=by
 refine wid ?_;by_cases h1:d<0
 ·have h2:nI d=true:=by simp[nI,h1]
  exact aej
 by_cases h3:1073741823<d
 ·have h2:nI d=true:=by simp[nI,h3]
  exact aej
 have h2:nI d=false:=by simp[nI,h1,h3]
 exact aej
theorem FI(A:Option Addr)(n c:Nat)(l:List Int)(w:World)(hx:Sl Int w M A n c l):
 Calls prog 110 #[.slice A n c,.func (.func 75) #[] #[]] w fun e w'=>∃i:Int,e=.returned (.int .i64 i)/\decide (0<=i)=l.any nI/\w=w':=by
 refine wid ?_;have hs:=hx.small;have hl:=hx.len;have H:=Hd hx;have HL:=Hd hl;have eg:=enters_of (P:=prog) func75 (by kernel_rfl) rfl;clear hx hl;refine ent func110 rfl ntmps110 ?_;gi_wp2;gi_loop[8] (fun i=>∃k:Nat,k<=n/\i=.int .i64 k/\Hid ((l.drop k).any nI=l.any nI)) (fun i=>n-(intOf i).toNat);case atStart=>exact⟨0,Nat.zero_le _,rfl,rfl⟩
 case round=>
  obtain⟨k,hk,rfl,hr⟩:=hrel;by_cases hlt:k<n
  ·obtain⟨b,o,x,rfl,hc,-,hd,-⟩:=H.out.pR hlt;have hr2:=hr.out;rw[hd,List.any_cons]at hr2;generalize hox:nI x=ox at*;have HO:=Hd hox;have HR:=Hd hr2;clear hox hr2 hd;cases ox
   ·gi_wp2_with (refine Cl 75 (Ed x _) ?_;rintro e w1 ⟨rfl,rfl⟩;rw[HO.out])
    go_round;case rel=>exact⟨k+1,by omega,by go_num,by have:=HR.out;rwa [Bool.false_or]at this⟩
    case measure=>simp[intOf];omega
   gi_wp2_with (refine Cl 75 (Ed x _) ?_;rintro e w1 ⟨rfl,rfl⟩;rw[HO.out])
   go_ret;exact⟨k,rfl,by rw[<-HR.out,Bool.true_or];simp,rfl⟩
  ·have hr2:=hr.out;rw[List.drop_of_length_le (by rw[HL.out];omega)]at hr2;have HR:=Hd hr2;clear hr2;gi_wp2;go_ret;exact⟨-1,rfl,by rw[<-HR.out];rfl,rfl⟩
theorem lK(A:Option Addr)(n c:Nat)(l:List Int)(w:World)(hx:Sl Int w M A n c l):
 Calls prog 76 #[.slice A n c,.func (.func 75) #[] #[]] w fun e w'=>e=.returned (.bool (l.any nI))/\w=w':=by
 refine wid ?_;have H:=Hd hx;clear hx;refine ent func76 rfl ntmps76 ?_;gi_wp2_with (refine Cl 110 (FI A n c l _ H.out) ?_;rintro e w1 ⟨i,rfl,hi,rfl⟩;have HI:=Hd hi;clear hi)
 go_ret;exact⟨by rw[<-HI.out];rfl,rfl⟩
theorem LY{l:List Int}{n:Nat}(hl:l.length=n):gZ (neg,l)=(decide (n<=2048)&& !(decide (n=0)&&neg)&&(l.getLast?.all fun d=>d !=0)&& !l.any nI):=by
 unfold gZ Lj;rw[YJ,Bool.not_not,hl];congr 4
 cases l with
 |nil=>simp at hl;subst hl;rfl
 |cons a r=>simp at hl;simp;intro e;omega
def rJ(b:Bool):Int:=if b then 0 else 90
theorem eF(A:Option Addr)(n c:Nat)(neg:Bool)(l:List Int)(w:World)(hx:Sl Int w M A n c l):
 CB 39 #[.agg #[.bool neg,.slice A n c]] (.int .i64 (rJ (gZ (neg,l)))) w:=by
 refine wid ?_;have hs:=hx.small;have hl:=hx.len;have H:=Hd hx;have hz:=LY (neg:=neg) hl;obtain⟨W1,hW1⟩:=aC (w.alloc (.cells #[.bool neg,.slice A n c] 28));have b1:Below w.heap.size w W1:=by rw[<-hW1];exact bel
 have c0:W1.cell? ⟨w.heap.size,0,none⟩=some (.bool neg):=by rw[<-hW1];simp[go_sem]
 have c1:W1.cell? ⟨w.heap.size,1,none⟩=some (.slice A n c):=by rw[<-hW1];simp[go_sem]
 have B1:=Hd b1;have H1:=Hd (hx.keep (Keeps.of_below b1 M));generalize gZ (neg,l)=z at*
 clear b1 hx;by_cases h1:2048<n
 ·have hz1:z=false:=by rw[hz,decide_eq_false (show ¬n<=2048 by omega)];rfl
  subst hz1;clear hz hl;exact ad8
 ·rw[decide_eq_true (show n<=2048 by omega),Bool.true_and]at hz;rcases Nat.eq_zero_or_pos n with h0|h0
  ·subst h0;have hl0:l= []:=List.length_eq_zero_iff.1 hl;subst hl0;have hz1:z= !neg:=by rw[hz];simp
   subst hz1;clear hz hl;cases neg
   ·refine ent func39 rfl ntmps39 ?_;gi_wp2_with (first|(refine Cl 76 (lK A _ c [] _ H1.out) ?_;rintro e w2 ⟨rfl,rfl⟩)|(refine⟨trivial,?_⟩))
    go_ret;exact⟨rfl,B1.out⟩
   exact ad8
  obtain⟨b,o,x,rfl,hc,-,-,hlx⟩:=H1.out.pR (show n-1<n by omega);have hlast:l.getLast?=some x:=by rw[List.getLast?_eq_getElem?,hl];exact hlx
  rw[hlast,decide_eq_false (show ¬n=0 by omega)]at hz;simp only[Bool.false_and,Bool.not_false,Bool.true_and,Option.all_some]at hz;have kw:IntKind.i64.wrap ((n:Int)-1)=((n-1:Nat):Int):=by rw[IntKind.wrap_i64];omega
  have kj:n-1<n:=by omega
  by_cases hx0:x=0
  ·subst hx0;have hz1:z=false:=by rw[hz];rfl
   subst hz1;clear hz hl hlast hlx;exact ad8
  have hx1:(x==0)=false:=by simpa using hx0
  rw[show(x !=0)=true by simpa using hx0,Bool.true_and]at hz;obtain⟨q,hq⟩:=aC (l.any nI);have HQ:=Hd hq;rw[hq]at hz;subst hz;clear hl hlast hlx hq;cases q;·exact ad6
  exact ad6
theorem fZ(A:Option Addr)(n c:Nat)(neg:Bool)(l:List Int)(w:World)(hx:Sl Int w M A n c l):
 CB 29 #[.agg #[.bool neg,.slice A n c]] (.int .i64 (rJ (gZ (neg,l)))) w:=by
 refine wid ?_;have hs:=hx.small;have hl:=hx.len;have H:=Hd hx;have hz:=LY (neg:=neg) hl;obtain⟨W1,hW1⟩:=aC (w.alloc (.cells #[.bool neg,.slice A n c] 28));have b1:Below w.heap.size w W1:=by rw[<-hW1];exact bel
 have c0:W1.cell? ⟨w.heap.size,0,none⟩=some (.bool neg):=by rw[<-hW1];simp[go_sem]
 have c1:W1.cell? ⟨w.heap.size,1,none⟩=some (.slice A n c):=by rw[<-hW1];simp[go_sem]
 have B1:=Hd b1;have H1:=Hd (hx.keep (Keeps.of_below b1 M));have HL:=Hd hl;generalize gZ (neg,l)=z at*
 clear b1 hx;by_cases h1:2048<n
 ·have hz1:z=false:=by rw[hz,decide_eq_false (show ¬n<=2048 by omega)];rfl
  subst hz1;clear hz hl;exact aeA
 ·rw[decide_eq_true (show n<=2048 by omega),Bool.true_and]at hz;rcases Nat.eq_zero_or_pos n with h0|h0
  ·subst h0;have hl0:l= []:=List.length_eq_zero_iff.1 hl;subst hl0;have hz1:z= !neg:=by rw[hz];simp
   subst hz1;clear hz hl;cases neg
   ·refine ent func29 rfl ntmps29 ?_;gi_wp2;gi_loop[4] (fun i=>i=.int .i64 0) (fun _=>0);case atStart=>rfl
    case round=>subst hrel;gi_wp2;go_ret;exact⟨rfl,B1.out⟩
   exact aeA
  obtain⟨b,o,x,rfl,hc,-,-,hlx⟩:=H1.out.pR (show n-1<n by omega);have hlast:l.getLast?=some x:=by rw[List.getLast?_eq_getElem?,hl];exact hlx
  rw[hlast,decide_eq_false (show ¬n=0 by omega)]at hz;simp only[Bool.false_and,Bool.not_false,Bool.true_and,Option.all_some]at hz;have kw:IntKind.i64.wrap ((n:Int)-1)=((n-1:Nat):Int):=by rw[IntKind.wrap_i64];omega
  have kj:n-1<n:=by omega
  by_cases hx0:x=0
  ·subst hx0;have hz1:z=false:=by rw[hz];rfl
   subst hz1;clear hz hl hlast hlx;exact aeA
  have hx1:(x==0)=false:=by simpa using hx0
  rw[show(x !=0)=true by simpa using hx0,Bool.true_and]at hz;have HZ:=Hd hz;clear hl hlast hlx hz;refine ent func29 rfl ntmps29 ?_;gi_wp2;gi_loop[4] (fun i=>∃k:Nat,k<=n/\i=.int .i64 k/\Hid ((l.drop k).any nI=l.any nI)) (fun i=>n-(intOf i).toNat);case atStart=>exact⟨0,Nat.zero_le _,rfl,rfl⟩
  case round=>
   obtain⟨k,hk,rfl,hr⟩:=hrel;by_cases hlt:k<n
   ·obtain⟨b',o',y,e',hcy,-,hd,-⟩:=H1.out.pR hlt;cases e';have hr2:=hr.out;rw[hd,List.any_cons]at hr2;have HR:=Hd hr2;clear hr2 hd;by_cases hy1:y<0;·have HO:=Hd (show nI y=true by simp[nI,hy1]);gi_wp2;go_ret;exact⟨by rw[HZ.out,<-HR.out,HO.out];rfl,B1.out⟩
    by_cases hy2:1073741824<=y;·have HO:=Hd (show nI y=true by simp[nI];omega);gi_wp2;go_ret;exact⟨by rw[HZ.out,<-HR.out,HO.out];rfl,B1.out⟩
    have HO:=Hd (show nI y=false by simp[nI];omega);gi_wp2;go_round;case rel=>exact⟨k+1,by omega,by go_num,by have:=HR.out;rwa [HO.out,Bool.false_or]at this⟩
    case measure=>simp[intOf];omega
   ·have hr2:=hr.out;rw[List.drop_of_length_le (by rw[HL.out];omega)]at hr2;have HR:=Hd hr2;clear hr2;gi_wp2;go_ret;exact⟨by rw[HZ.out,<-HR.out];rfl,B1.out⟩
theorem Sl.LZ{n:Nat}{xs:List lG}(h:Sl lG w M A n c xs){l:List Int}(hk:xs[k]?=some (neg,l)):
 ∃b o A' n' c',A=some ⟨b,o,none⟩/\w.cell? ⟨b,o+k*2,none⟩=some (.bool neg)/\w.cell? ⟨b,o+k*2+1,none⟩=some (.slice A' n' c')/\Sl Int w M A' n' c' l:=by
 obtain⟨b,o,es,rfl,h1,h2⟩:=h.get hk;obtain⟨ds,fs,rfl,h3,A',n',c',rfl,h4⟩:=h1;have h3:ds= [.bool neg]:=h3;subst h3;refine⟨b,o,A',n',c',rfl,?_,?_,h4⟩;·have:=h2.2 0 (.bool neg) rfl;exact this
 ·have:=h2.2 1 (.slice A' n' c') rfl;exact this
theorem iR(A:Option Addr)(n c:Nat)(zs:List Int)(w:World)(hx:Sl lG w M A n c (zs.map jk))(hz:∀z,z∈zs->fits z=true):
 CB 78 #[.slice A n c] (.tuple #[]) w:=by
 refine wid ?_;have hs:=hx.small;have hl:zs.length=n:=by have:=hx.len;simpa using this
 have H:=Hd hx;have HZ:=Hd hz;have HL:=Hd hl;clear hx hz hl;refine ent func78 rfl ntmps78 ?_;gi_wp2;gi_loopw[7] (fun i wr=>∃k:Nat,k<=n/\i=.int .i64 k/\Below w.heap.size w wr) (fun i _=>n-(intOf i).toNat);case atStart=>exact⟨0,Nat.zero_le _,rfl,Below.refl _ _⟩
 case round=>
  obtain⟨k,hk,rfl,hb⟩:=hrel;by_cases hlt:k<n
  ·obtain⟨z,hz⟩:=dW zs k (by rw[HL.out];exact hlt);obtain⟨b,o,A',n',c',rfl,hc0,hc1,hsl⟩:=(H.out.keep (Keeps.of_below hb M)).LZ (k:=k) (neg:=aG z) (l:=ints (bG z)) (by rw[List.getElem?_map,hz];rfl);have hok:=j_ z (HZ.out z (List.mem_of_getElem? hz));have S:=Hd hsl;have HK:=Hd (show rJ (gZ (aG z,ints (bG z)))=0 by rw[show(aG z,ints (bG z))=jk z from rfl,hok];rfl);clear hsl hok hz;gi_wp2_with (refine Cl 39 (eF A' n' c' (aG z) (ints (bG z)) _ (S.out.go (by exact bel))) ?_;rintro e w2 ⟨rfl,hb2⟩;rw[HK.out];have HB2:=Hd hb2;clear hb2)
   have hb3:Below w.heap.size w w2:=(hb.alloc hb.size _).trans (HB2.out.mono (by simp;have:=hb.size;omega));exact⟨⟨k+1,by omega,by go_num,hb3⟩,by simp[intOf];omega⟩
  ·gi_wp2;go_end0;exact⟨rfl,hb⟩
abbrev Tj(x:Int):Value:=.iface 31 (.int .i64 x)
theorem Ee(x:Int)(w:World):(Instr.typeAssert (Tj x) 20 31 true).run prog w=.ok (.tuple #[.int .i64 x,.bool true]) w:=by kernel_rfl
theorem Ef{n:Nat}(p:Addr)(x y:Int)(older:List PanicEntry)(w:World)(hc:w.cell? p=some (.int .i64 y))(hf:w.frozen? p=false):
 CallsDIn Fence.wide n prog 77 #[.pointer (some p)] (.panicking ({ v:=Tj x,recovered:=false }::older)) w fun e u' w'=>e=.returned (.tuple #[])/\u'=.panicking ({ v:=Tj x,recovered:=true }::older)/\w'=w.setCell p (.int .i64 x):=by
 refine callsDIn_of_wpSIn func77 rfl trivial fun c₀ cs hu=>?_;apply wpSIn_seq;apply wpSIn_region;simp[wpOpsSIn,go_sem,recoverD,hu,ntmps77,Exit.thenS];refine wpSIn_of_wpIn rfl ?_;refine Go.wpIn_mono (Q:=fun e a' w'=>e=.normal/\a'.defers= []/\w'=w.setCell p (.int .i64 x)) ?_ ?_;rotate_left;·rintro e a' w' ⟨rfl,hd,rfl⟩;simp[bodyPostS,results,results77,hd]
 clear hu;have hta:=Ee x;simp only[Array.replicate_succ,Array.replicate_zero,List.push_toArray,List.append_toArray,List.nil_append,List.cons_append,List.setIfInBounds_toArray,List.set_cons_succ,List.set_cons_zero];gi_wp2
theorem iJ{n:Nat}(p:Addr)(w:World):
 CallsDIn Fence.wide n prog 77 #[.pointer (some p)] .returning w fun e u' w'=>e=.returned (.tuple #[])/\u'=.returning/\w'=w:=by
 refine callsDIn_of_wpSIn func77 rfl trivial fun c₀ cs hu=>?_;apply wpSIn_seq;apply wpSIn_region;simp[wpOpsSIn,go_sem,recoverD,hu,ntmps77,Exit.thenS];refine wpSIn_of_wpIn rfl ?_;refine Go.wpIn_mono (Q:=fun e a' w'=>e=.normal/\a'.defers= []/\w'=w) ?_ ?_;rotate_left;·rintro e a' w' ⟨rfl,hd,rfl⟩;cases c₀;simp_all[bodyPostS,results,results77,hd]
 clear hu;simp only[Array.replicate_succ,Array.replicate_zero,List.push_toArray,List.append_toArray,List.nil_append,List.cons_append,List.setIfInBounds_toArray,List.set_cons_succ,List.set_cons_zero];gi_wp2
theorem yD:fits (gJ neg v)=decide ((bC v).length<=2048):=by unfold fits;rw[yw]
theorem ZV.less{w:World}{M M':List Nat}{v:Value}{z:Int}(h:ZV w M v z)(hs:∀k,k∈M'->k∈M):ZV w M' v z:=by obtain⟨A,n,c,rfl,h⟩:=h;exact⟨A,n,c,rfl,h.less hs⟩
theorem ZV.BJ{wr w2:World}{O:Option Addr}{cO q:Nat}(hs:Sl Int wr M O k cO (ints l))(hq:q<=k)(ht:l.take q=bC (val l))(hv:val l=v)(hb2:Keeps M wr w2):
 ZV w2 M (.agg #[.bool (neg&&decide (0<q)),.slice O q cO]) (gJ neg v):=by
 have h:=(hs.keep hb2).nY hq;rw[eG,ht,hv]at h;have hl:=h.len;rw[jm]at hl;refine⟨O,q,cO,?_,?_⟩;·rw[Le,hl]
 ·rw[yw];exact h
theorem Wv{n:Nat}(hM:b_ M w)(hx:Sl Int w M A n c (ints l))(hg:Good l)(hv:val l=v)(hf:fits (gJ neg v)=true):
 Calls prog 80 #[.bool neg,.slice A n c] w fun e w'=>∃u,e=.returned u/\ZV w' M u (gJ neg v)/\Below w.heap.size w w':=by
 refine wid ?_;have hs:=hx.small;obtain⟨W1,hW1⟩:=aC (w.alloc (.cells #[.bool false,.slice none 0 0] 28));have b1:Below w.heap.size w W1:=by rw[<-hW1];exact bel
 have s1:W1.heap.size=w.heap.size+1:=by rw[<-hW1];simp
 have c0:W1.cell? ⟨w.heap.size,0,none⟩=some (.bool false):=by rw[<-hW1];simp[go_sem]
 have c1:W1.cell? ⟨w.heap.size,1,none⟩=some (.slice none 0 0):=by rw[<-hW1];simp[go_sem]
 have f0:W1.frozen? ⟨w.heap.size,0,none⟩=false:=by rw[<-hW1];simp[go_sem]
 have f1:W1.frozen? ⟨w.heap.size,1,none⟩=false:=by rw[<-hW1];simp[go_sem]
 rw[yD]at hf;have hf2:=of_decide_eq_true hf;have S:=h_ ((hx.more (b:=w.heap.size) (Nat.le_refl _)).keep (Keeps.of_below b1 _)) hg hv hM;have B:=Zw b1 s1 c0 c1 f0 f1;have HF:=Hd hf2;have HL:=Hd hx.eu;clear hx hg hv hM b1 s1 c0 c1 f0 f1 hf hf2;have fin:∀(w2:World) (q:Nat),q<=n->l.take q=bC (val l)->Below W1.heap.size W1 w2->∀(u:Value),ZV ((w2.setCell ⟨w.heap.size,0,none⟩ u).setCell ⟨w.heap.size,1,none⟩ (.slice A q c)) M (.agg #[.bool (neg&&decide (0<q)),.slice A q c]) (gJ neg v)/\Below w.heap.size w ((w2.setCell ⟨w.heap.size,0,none⟩ u).setCell ⟨w.heap.size,1,none⟩ (.slice A q c)):=by intro w2 q hq ht hb2 u;exact ado
 have FIN:=Hd fin;clear fin;cases neg
 ·refine sH func80 rfl ntmps80 ?_;gi_wp2_with (refine Cl 113 (jw A n c l _ S.out.1 S.out.2.1) ?_;rintro e w2 ⟨q,rfl,hq,ht,hb2⟩;have hq2:q<=2048:=(by exact adD);obtain⟨b1,s1,c0,c1,f0,f1⟩:=B.out;have c0':w2.cell? ⟨w.heap.size,0,none⟩=some (.bool false):=(hb2.cell (p:=⟨w.heap.size,0,none⟩) (by simp;omega)).trans c0;have c1':w2.cell? ⟨w.heap.size,1,none⟩=some (.slice none 0 0):=(hb2.cell (p:=⟨w.heap.size,1,none⟩) (by simp;omega)).trans c1;have f0':w2.frozen? ⟨w.heap.size,0,none⟩=false:=(hb2.frozen (p:=⟨w.heap.size,0,none⟩) (by simp;omega)).trans f0;have f1':w2.frozen? ⟨w.heap.size,1,none⟩=false:=(hb2.frozen (p:=⟨w.heap.size,1,none⟩) (by simp;omega)).trans f1;have HT:=fB ht hq hb2;clear ht hq hb2 b1 s1 c0 c1 f0 f1)
  obtain⟨z1,z2⟩:=FIN.out w2 q HT.out.2.1 HT.out.1 HT.out.2.2 (.bool false);rw[Bool.false_and]at z1;exact⟨.agg #[.bool false,.slice A q c],by simp[results,go_sem,c0',c1'],_,rfl,z1,z2⟩
 ·refine sH func80 rfl ntmps80 ?_;gi_wp2_with (refine Cl 113 (jw A n c l _ S.out.1 S.out.2.1) ?_;rintro e w2 ⟨q,rfl,hq,ht,hb2⟩;have hq2:q<=2048:=(by exact adD);obtain⟨b1,s1,c0,c1,f0,f1⟩:=B.out;have c0':w2.cell? ⟨w.heap.size,0,none⟩=some (.bool false):=(hb2.cell (p:=⟨w.heap.size,0,none⟩) (by simp;omega)).trans c0;have c1':w2.cell? ⟨w.heap.size,1,none⟩=some (.slice none 0 0):=(hb2.cell (p:=⟨w.heap.size,1,none⟩) (by simp;omega)).trans c1;have f0':w2.frozen? ⟨w.heap.size,0,none⟩=false:=(hb2.frozen (p:=⟨w.heap.size,0,none⟩) (by simp;omega)).trans f0;have f1':w2.frozen? ⟨w.heap.size,1,none⟩=false:=(hb2.frozen (p:=⟨w.heap.size,1,none⟩) (by simp;omega)).trans f1;have HT:=fB ht hq hb2;clear ht hq hb2 b1 s1 c0 c1 f0 f1)
  obtain⟨z1,z2⟩:=FIN.out w2 q HT.out.2.1 HT.out.1 HT.out.2.2 (.bool (decide (0<q)));rw[Bool.true_and]at z1;exact⟨.agg #[.bool (decide (0<q)),.slice A q c],by simp[results,go_sem,c0',c1'],_,rfl,z1,z2⟩
abbrev Wx(x:Int):Ending:=.panicked [{ v:=Tj x,recovered:=false }]
theorem QE{n:Nat}(hx:Sl Int w M A n c (ints l))(hg:Good l)(hv:val l=v)(hf:fits (gJ neg v)=false):
 Calls prog 80 #[.bool neg,.slice A n c] w fun e w'=>e=Wx 2/\Below w.heap.size w w':=by
 refine wid ?_;have hs:=hx.small;rw[yD]at hf;have hf2:=of_decide_eq_false hf;have S:=fB hx hg hv;have HF:=Hd hf2;have HL:=Hd hx.eu;clear hx hg hv hf hf2;refine sH func80 rfl ntmps80 ?_;gi_wp2_with (refine Cl 113 (jw A n c l _ (S.out.1.go (by exact bel)) S.out.2.1) ?_;rintro e w2 ⟨q,rfl,hq,ht,hb2⟩;have hq2:2048<q:=(by have h:=HF.out;rw[<-S.out.2.2,<-ht,List.length_take,HL.out]at h;omega);have HB:=Hd hb2;clear ht hq hb2)
 have hb:Below w.heap.size w w2:=((Below.refl w.heap.size w).alloc (Nat.le_refl _) (.cells #[.bool false,.slice none 0 0] 28)).trans (HB.out.mono (by simp))
 first
  |exact⟨rfl,hb⟩
  |exact⟨rfl,rfl,hb⟩
  |exact⟨rfl,.inl ⟨rfl,hb⟩⟩
def Wy(z:Int):Int:=if fits z then 0 else 2
def NW(z:Int):Int:=if fits z then z else 0
theorem nJ(h:fits z=true):Wy z=0:=by simp[Wy,h]
theorem Jw(h:fits z=false):Wy z=2:=by simp[Wy,h]
theorem nK(h:fits z=true):NW z=z:=by simp[NW,h]
theorem Jy(h:fits z=false):NW z=0:=by simp[NW,h]
def ZR(w:World)(M:List Nat)(z:Int)(e:Ending)(w':World):Prop:=∃u,e=.returned (.tuple #[u,.int .i64 (Wy z)])/\ZV w' M u (NW z)/\Below w.heap.size w w'
theorem Zc{n:Nat}(hM:b_ M w)(hx:Sl Int w M A n c (ints l))(hg:Good l)(hv:val l=v):
 Calls prog 63 #[.bool neg,.slice A n c] w (ZR w M (gJ neg v)):=by
 refine wid ?_;have hs:=hx.small;obtain⟨W1,hW1⟩:=aC (w.alloc (.cells #[.bool false,.slice none 0 0] 28));have b1:Below w.heap.size w W1:=by rw[<-hW1];exact bel
 have s1:W1.heap.size=w.heap.size+1:=by rw[<-hW1];simp
 have c0:W1.cell? ⟨w.heap.size,0,none⟩=some (.bool false):=by rw[<-hW1];simp[go_sem]
 have c1:W1.cell? ⟨w.heap.size,1,none⟩=some (.slice none 0 0):=by rw[<-hW1];simp[go_sem]
 have f0:W1.frozen? ⟨w.heap.size,0,none⟩=false:=by rw[<-hW1];simp[go_sem]
 have f1:W1.frozen? ⟨w.heap.size,1,none⟩=false:=by rw[<-hW1];simp[go_sem]
 have S:=h_ ((hx.more (b:=w.heap.size) (Nat.le_refl _)).keep (Keeps.of_below b1 _)) hg hv hM;have B:=Zw b1 s1 c0 c1 f0 f1;have HL:=Hd hx.eu;clear hx hg hv hM b1 s1 c0 c1 f0 f1;have fin:∀(w2:World) (q:Nat),q<=n->l.take q=bC (val l)->Below W1.heap.size W1 w2->∀(u:Value),ZV ((w2.setCell ⟨w.heap.size,0,none⟩ u).setCell ⟨w.heap.size,1,none⟩ (.slice A q c)) M (.agg #[.bool (neg&&decide (0<q)),.slice A q c]) (gJ neg v)/\Below w.heap.size w ((w2.setCell ⟨w.heap.size,0,none⟩ u).setCell ⟨w.heap.size,1,none⟩ (.slice A q c)):=by intro w2 q hq ht hb2 u;exact ado
 have FIN:=Hd fin;clear fin;cases hf:fits (gJ neg v)
 ·have Z:=Hd2 (Jw hf) (Jy hf);rw[yD]at hf;have HF:=Hd (of_decide_eq_false hf);clear hf;refine sH func63 rfl ntmps63 ?_;gi_wp2_with (refine Cl 94 (jy A n c l _ S.out.1 S.out.2.1) ?_;rintro e w2 ⟨q,rfl,hq,ht,hb2⟩;have hq2:2048<q:=(by exact adD);obtain⟨b1,s1,c0,c1,f0,f1⟩:=B.out;have c0':w2.cell? ⟨w.heap.size,0,none⟩=some (.bool false):=(hb2.cell (p:=⟨w.heap.size,0,none⟩) (by simp;omega)).trans c0;have c1':w2.cell? ⟨w.heap.size,1,none⟩=some (.slice none 0 0):=(hb2.cell (p:=⟨w.heap.size,1,none⟩) (by simp;omega)).trans c1;have f0':w2.frozen? ⟨w.heap.size,0,none⟩=false:=(hb2.frozen (p:=⟨w.heap.size,0,none⟩) (by simp;omega)).trans f0;have f1':w2.frozen? ⟨w.heap.size,1,none⟩=false:=(hb2.frozen (p:=⟨w.heap.size,1,none⟩) (by simp;omega)).trans f1;have HT:=fB ht hq hb2;clear ht hq hb2 b1 s1 c0 c1 f0 f1)
  refine⟨.tuple #[.agg #[.bool false,.slice none 0 0],.int .i64 2],by simp[results,go_sem,c0',c1'],.agg #[.bool false,.slice none 0 0],by rw[Z.out.1],?_,?_⟩;·rw[Z.out.2];exact ZV.zero _ _
  exact((B.out.1.trans (HT.out.2.2.mono (by rw[B.out.2.1];omega))).setCell (p:=⟨w.heap.size,0,none⟩) (Nat.le_refl _) _).setCell (p:=⟨w.heap.size,1,none⟩) (Nat.le_refl _) _
 ·have Z:=Hd2 (nJ hf) (nK hf);rw[yD]at hf;have HF:=Hd (of_decide_eq_true hf);clear hf;cases neg
  ·refine sH func63 rfl ntmps63 ?_;gi_wp2_with (refine Cl 94 (jy A n c l _ S.out.1 S.out.2.1) ?_;rintro e w2 ⟨q,rfl,hq,ht,hb2⟩;have hq2:q<=2048:=(by exact adD);obtain⟨b1,s1,c0,c1,f0,f1⟩:=B.out;have c0':w2.cell? ⟨w.heap.size,0,none⟩=some (.bool false):=(hb2.cell (p:=⟨w.heap.size,0,none⟩) (by simp;omega)).trans c0;have c1':w2.cell? ⟨w.heap.size,1,none⟩=some (.slice none 0 0):=(hb2.cell (p:=⟨w.heap.size,1,none⟩) (by simp;omega)).trans c1;have f0':w2.frozen? ⟨w.heap.size,0,none⟩=false:=(hb2.frozen (p:=⟨w.heap.size,0,none⟩) (by simp;omega)).trans f0;have f1':w2.frozen? ⟨w.heap.size,1,none⟩=false:=(hb2.frozen (p:=⟨w.heap.size,1,none⟩) (by simp;omega)).trans f1;have HT:=fB ht hq hb2;clear ht hq hb2 b1 s1 c0 c1 f0 f1)
   obtain⟨z1,z2⟩:=FIN.out w2 q HT.out.2.1 HT.out.1 HT.out.2.2 (.bool false);rw[Bool.false_and]at z1;refine⟨.tuple #[.agg #[.bool false,.slice A q c],.int .i64 0],by simp[results,go_sem,c0',c1'],.agg #[.bool false,.slice A q c],by rw[Z.out.1],by rw[Z.out.2];exact z1,z2⟩
  refine sH func63 rfl ntmps63 ?_;gi_wp2_with (refine Cl 94 (jy A n c l _ S.out.1 S.out.2.1) ?_;rintro e w2 ⟨q,rfl,hq,ht,hb2⟩;have hq2:q<=2048:=(by exact adD);obtain⟨b1,s1,c0,c1,f0,f1⟩:=B.out;have c0':w2.cell? ⟨w.heap.size,0,none⟩=some (.bool false):=(hb2.cell (p:=⟨w.heap.size,0,none⟩) (by simp;omega)).trans c0;have c1':w2.cell? ⟨w.heap.size,1,none⟩=some (.slice none 0 0):=(hb2.cell (p:=⟨w.heap.size,1,none⟩) (by simp;omega)).trans c1;have f0':w2.frozen? ⟨w.heap.size,0,none⟩=false:=(hb2.frozen (p:=⟨w.heap.size,0,none⟩) (by simp;omega)).trans f0;have f1':w2.frozen? ⟨w.heap.size,1,none⟩=false:=(hb2.frozen (p:=⟨w.heap.size,1,none⟩) (by simp;omega)).trans f1;have HT:=fB ht hq hb2;clear ht hq hb2 b1 s1 c0 c1 f0 f1)
  obtain⟨z1,z2⟩:=FIN.out w2 q HT.out.2.1 HT.out.1 HT.out.2.2 (.bool (decide (0<q)));rw[Bool.true_and]at z1;refine⟨.tuple #[.agg #[.bool (decide (0<q)),.slice A q c],.int .i64 0],by simp[results,go_sem,c0',c1'],.agg #[.bool (decide (0<q)),.slice A q c],by rw[Z.out.1],by rw[Z.out.2];exact z1,z2⟩
def DR2(w:World)(M:List Nat)(x y:Nat)(e:Ending)(w':World):Prop:=∃O q cO O2 q2 Z7,e=.returned (.tuple #[.slice O q cO,.slice O2 q2 Z7])/\Sl Int w' M O q cO (ints (bC x))/\Sl Int w' M O2 q2 Z7 (ints (bC y))/\Below w.heap.size w w'
theorem YK(h:(bC y).length=1):bC y= [y]/\0<y/\y<=1073741823:=by
 have h0:y≠0:=by intro e;rw[e,bU]at h;simp at h
 have h1:y<BB^1:=(lY y 1).2 (by omega);rw[Nat.pow_one]at h1;refine⟨?_,by omega,g_ h1⟩;rw[iP h0,Nat.mod_eq_of_lt h1,Nat.div_eq_of_lt h1,bU]
theorem L8{n x:Nat}(hM:b_ M w)(hx:Sl Int w M A n c (ints (bC x)))(hy:Sl Int w M B m d (ints (bC y)))(hn:n<=4990)(hy0:0<y):
 Calls prog 79 #[.slice A n c,.slice B m d] w (DR2 w M (x/y) (x%y)):=by
 refine wid ?_;have l1:=hx.eu;have l2:=hy.eu;have hs2:=hy.small;have H:=Hd hx;have G:=Hd hy;have HM:=Hd hM;by_cases hlt:x<y
 ·have hc:=Hd (pI hlt);have hq:=Hd2 (Nat.div_eq_of_lt hlt) (Nat.mod_eq_of_lt hlt);clear hx hy hM l1 l2;refine ent func79 rfl ntmps79 ?_;gi_wp2_with (refine Cl 111 (jo A B n c m d x y _ H.out G.out) ?_;rintro e w1 ⟨rfl,hb⟩;rw[hc.out];have HB:=Hd hb;clear hb)
  go_ret2;rw[hq.out.1,hq.out.2];exact⟨none,0,0,A,n,c,rfl,by rw[bU];exact Sl.nil0,H.out.go HB.out,HB.out⟩
 ·have hmn:m<=n:=by rw[<-l1,<-l2];exact kR (Nat.le_of_not_lt hlt)
  have hcz:qK x y=0\/qK x y=1:=by
   rcases Nat.lt_or_ge y x with h|h;·exact .inr (pJ h)
   exact .inl (uM (by omega))
  obtain⟨cz,Zd⟩:=aC (qK x y);rw[Zd]at hcz;have HC:=Hd Zd;clear Zd;have hcn:¬cz<0:=by omega
  have hm0:m≠0:=by intro e;rw[e]at l2;have:=jO.1 (List.length_eq_zero_iff.1 l2);omega
  by_cases hm1:m=1
  ·subst hm1;obtain⟨d1,d2,d3⟩:=YK l2;obtain⟨b0,o0,dt,rfl,hct,hdt,hdl,-⟩:=hy.mG (aO y) (show 0<1 by omega);rw[d1]at hdl;obtain rfl:y=dt:=by simpa using hdl
   rw[Nat.add_zero]at hct;have hmod:=Nat.mod_lt x d2;clear hx hy hM l1 l2 d1 hdl hcz;refine ent func79 rfl ntmps79 ?_
   gi_wp2_with (first
    |(refine Cl 113 (jw (M:=M) _ _ _ [x%y] _ TR.out.1 TR.out.2) ?_;rintro e w3 ⟨q3,rfl,hq3,ht3,hb3⟩;have H3:=fB hq3 ht3 hb3;clear hq3 ht3 hb3)
    |(refine Cl 112 (short_any (x:=x) (d:=y) (HM.out.le H1.out.size) (H.out.go H1.out) (by omega) d2 (by omega)) ?_;rintro e w2 ⟨O2,q2,c2,rfl,hs2,hb2⟩;have H2:=Hd2 hs2 hb2;clear hs2 hb2;have TR:Hid (Sl Int (w2.alloc (.cells #[.int .i64 ((x%y:Nat):Int)] 3)) M (some ⟨w2.heap.size,0,none⟩) 1 1 (ints [x%y])/\Good [x%y]):=by have hg:Good [x%y]:=nT (Hy (by omega)) tu;have hr:Row (w2.alloc (.cells #[.int .i64 ((x%y:Nat):Int)] 3)) w2.heap.size (ints [x%y]):=heap_alloc_new w2 _;exact⟨hr.sl (fun e=>by have:=HM.out _ e;have:=H1.out.size;have:=H2.out.2.size;omega) rfl (by omega) (fU hg),hg⟩)
    |(refine Cl 111 (jo A _ n c 1 d x y _ H.out G.out) ?_;rintro e w1 ⟨rfl,hb⟩;rw[HC.out];have H1:=Hd hb;clear hb;have acp:w1.cell? ⟨b0,o0,none⟩=some (.int .i64 (y:Int)):=(H1.out.cell (World.block_lt_of_cell? w _ hct)).trans hct)
    |fail)
   have hv1:val [x%y]=x%y:=by simp[val]
   have h3:=(TR.out.1.go H3.out.2.2).nY H3.out.1;rw[eG,H3.out.2.1,hv1]at h3;have bA:Below w2.heap.size w2 w3:=((Below.refl w2.heap.size w2).alloc (Nat.le_refl _) (.cells #[.int .i64 ((x%y:Nat):Int)] 3)).trans (H3.out.2.2.mono (by simp));go_ret2;exact⟨O2,q2,c2,_,q3,1,rfl,H2.out.1.go bA,h3,H1.out.trans ((H2.out.2.trans (bA.mono H2.out.2.size)).mono H1.out.size)⟩
  clear hx hy hM l1 l2 hcz;refine ent func79 rfl ntmps79 ?_
  gi_wp2_with (first
   |(refine Cl 114 (Wp (x:=x) (y:=y) (HM.out.le H1.out.size) (H.out.go H1.out) (G.out.go H1.out) hn (by omega) hmn) ?_;rintro e w2 ⟨O,q,cO,O2,q2,c2,rfl,hs1,hs2,hb2⟩;have H2:=fB hs1 hs2 (H1.out.trans (hb2.mono H1.out.size));clear hs1 hs2 hb2)
   |(refine Cl 111 (jo A B n c m d x y _ H.out G.out) ?_;rintro e w1 ⟨rfl,hb⟩;rw[HC.out];have H1:=Hd hb;clear hb)
   |fail)
  go_ret2;exact⟨O,q,cO,O2,q2,c2,rfl,H2.out.1,H2.out.2.1,H2.out.2.2⟩
end
section
variable {F:Fence}{n:Nat}{P:Program}{Mr:List Nat}{md:Region.Mode}{ops:Array Oper}{Q Q':Exit→Act→World→Prop}
theorem Jz{i:Nat}{K:Act->World->Prop}{a:Act}(hq:∀e a w,Q e a w->Q' e a w)(hh:wpOpIn F n P ops Q i K a w):wpOpIn F n P ops Q' i K a w:=by
 have hl:LetsOut Q->LetsOut Q':=fun⟨a,w,h⟩=>⟨a,w,hq _ _ _ h⟩;unfold wpOpIn at*
 split;·simpa[*]using hh
 rename_i o ho;simp only[ho]at hh;split
 ·rename_i hw;simp only[hw,if_true]at hh;unfold Oper.wpIn at*;refine⟨hh.1,?_⟩;have hh:=hh.2;generalize (o.semAt F.round a.eval).run P w=r at*
  cases r with
  |ok x w'=>
   cases x<;>simp only[Oper.uponIn]at hh |- <;>first
    |exact hh
    |exact⟨hh.1,CallsIn.mono hh.2 (fun e w'' he=>by cases e<;>first|exact he|exact hq _ _ _ he|exact hl he)⟩
    |exact⟨hh.1,RoundIn.mono hh.2 (fun e w'' he=>by cases e<;>first|exact he|exact hq _ _ _ he|exact hl he)⟩
  |halt x w'=>cases x<;>simp only[Oper.uponIn]at hh |- <;>first|exact hh|exact hq _ _ _ hh
 rename_i hw;simp only[hw]at hh;exact hh
theorem yE{n0:Nat}{L:Array Bool->Act->World->Prop}(hq:∀e a w,Q e a w->Q' e a w):∀(f:Nat) (listed:Array Bool) (a:Act) (w:World),jQ F n P Mr md ops Q n0 L f listed a w->jQ F n P Mr md ops Q' n0 L f listed a w
 |0,listed,a,w,h=>h
 |f+1,listed,a,w,h=>⟨h.1,fun i hi=>⟨(h.2 i hi).1,Jz hq (wpOpIn_mono (fun a' w' h'=>⟨h'.1,yE hq f _ a' w' h'.2⟩) (h.2 i hi).2)⟩⟩
theorem WB{Q:Exit->Act->World->Prop}:∀e a w,cu Q e a w->Q e a w:=fun e a w h=>by cases e<;>first|exact h|exact h.elim
theorem iF(Mr:List Nat){id:Nat}{a:Act}(n0 g:Nat)(ord:List Nat)(hm:P.follows .mixedOrders=true)(hok:FM ops n0 ord=true)(hg:ops.size-n0=g)
 (h:jH F n P Mr ops (cu Q) (fun a' w'=>wpOpsIn F n P ops Q (List.range' n0 g) a' w') ord a w.drew):(Code.region id ops true).wpIn F n P Q a w:=by
 subst hg;simp only[FM,Bool.and_eq_true,decide_eq_true_eq]at hok;obtain⟨⟨⟨⟨⟨⟨h1,h2⟩,h3⟩,h4⟩,h5⟩,h6⟩,h7⟩:=hok;have inv:HeadInv .any ops n0 (Array.replicate ops.size false):=⟨by simp,fun j oj _ hl=>(by rw[getD_replicate_false]at hl;cases hl),fun t _ ht=>by simp[ht]⟩;have hE:=lQ (F:=F) (n:=n) (P:=P) (md:=.any) (Q:=cu Q) h1 h2 (fun d v c a w h=>BU d v c a w h) h3 ord _ a _ inv h4 h;rw[h5]at hE;refine wpIn_region_any hm ?_;have:=iK (g:=ops.size-n0) (fun l a w hl=>by obtain⟨rfl,hL⟩:=hl;exact iT _ _ _ a w h7 hL) _ _ _ _ (yE WB _ _ _ _ hE)
 rwa [show n0+(ops.size-n0)=ops.size by omega]at this
end
section
attribute [local go_sem] Oper.semAt_some
structure F4(w W:World)(na nb:Bool)(va vb:Value):Prop where
 a0:W.cell? ⟨w.heap.size,0,none⟩=some (.bool na)
 a1:W.cell? ⟨w.heap.size,1,none⟩=some va
 b0:W.cell? ⟨w.heap.size+1,0,none⟩=some (.bool nb)
 b1:W.cell? ⟨w.heap.size+1,1,none⟩=some vb
 x0:W.cell? ⟨w.heap.size+1+1,0,none⟩=some (.bool false)
 x1:W.cell? ⟨w.heap.size+1+1,1,none⟩=some (.slice none 0 0)
 e0:W.cell? ⟨w.heap.size+1+1+1,0,none⟩=some (.int .i64 0)
 f0:W.frozen? ⟨w.heap.size+1+1,0,none⟩=false
 f1:W.frozen? ⟨w.heap.size+1+1,1,none⟩=false
 fe:W.frozen? ⟨w.heap.size+1+1+1,0,none⟩=false
 bl:Below w.heap.size w W
 sz:w.heap.size+4<=W.heap.size
theorem F4.go(h:F4 w W na nb va vb)(hb:Below W.heap.size W W'):F4 w W' na nb va vb:=by have hs:=h.sz;have c:∀(k o:Nat) (u:Value),k<w.heap.size+4->W.cell? ⟨k,o,none⟩=some u->W'.cell? ⟨k,o,none⟩=some u:=fun k o u hk hu=>(hb.cell (p:=⟨k,o,none⟩) (show k<_ by omega)).trans hu;have f:∀(k o:Nat),k<w.heap.size+4->W.frozen? ⟨k,o,none⟩=false->W'.frozen? ⟨k,o,none⟩=false:=fun k o hk hu=>(hb.frozen (p:=⟨k,o,none⟩) (show k<_ by omega)).trans hu;exact⟨c _ _ _ (by omega) h.a0,c _ _ _ (by omega) h.a1,c _ _ _ (by omega) h.b0,c _ _ _ (by omega) h.b1,c _ _ _ (by omega) h.x0,c _ _ _ (by omega) h.x1,c _ _ _ (by omega) h.e0,f _ _ (by omega) h.f0,f _ _ (by omega) h.f1,f _ _ (by omega) h.fe,h.bl.trans (hb.mono h.bl.size),by have:=hb.size;omega⟩
theorem F4.start(w:World)(na nb:Bool)(va vb:Value)(ha:va.cells=#[va])(hb:vb.cells=#[vb]):
 F4 w ((((w.alloc (.cells #[.bool na,va] 28)).alloc (.cells #[.bool nb,vb] 28)).alloc (.cells #[.bool false,.slice none 0 0] 28)).alloc (.cells #[.int .i64 0] 31)) na nb va vb:=by
 refine⟨by simp[go_sem],by simp[go_sem],by simp[go_sem],by simp[go_sem],by simp[go_sem],by simp[go_sem],by simp[go_sem],by simp[go_sem],by simp[go_sem],by simp[go_sem],by exact bel,by simp⟩
theorem Sl.QF(hM:b_ M w){n:Nat}{la lb:List Int}(h1:Sl Int w M A n c la)(h2:Sl Int w M B m d lb):
 Sl lG (w.alloc (.cells #[.bool na,.slice A n c,.bool nb,.slice B m d] 28)) M (some ⟨w.heap.size,0,none⟩) 2 2 [(na,la),(nb,lb)]:=by
 have hb:Below w.heap.size w (w.alloc (.cells #[.bool na,.slice A n c,.bool nb,.slice B m d] 28)):=by exact bel
 have hm:w.heap.size∉M:=fun e=>by have:=hM _ e;omega
 refine⟨rfl,Nat.le_refl _,by simp[jG],by omega,.inr ⟨w.heap.size,0,rfl,fun k x hk=>?_⟩⟩
 match k,hk with
 |0,hk=>cases hk;exact⟨[.bool na,.slice A n c],⟨[.bool na], [.slice A n c],rfl,rfl,A,n,c,rfl,h1.keep (Keeps.of_below hb M)⟩,hm,fun j u hu=>by
   match j,hu with
   |0,hu=>cases hu;simp[go_sem]
   |1,hu=>cases hu;simp[go_sem]⟩
 |1,hk=>cases hk;exact⟨[.bool nb,.slice B m d],⟨[.bool nb], [.slice B m d],rfl,rfl,B,m,d,rfl,h2.keep (Keeps.of_below hb M)⟩,hm,fun j u hu=>by
   match j,hu with
   |0,hu=>cases hu;simp[go_sem,show Rep.sz lG=2 from rfl]
   |1,hu=>cases hu;simp[go_sem,show Rep.sz lG=2 from rfl]⟩
theorem WC(hM:b_ M w)(ha:ZV w M va a)(hb:ZV w M vb b)(fa:fits a=true)(fb:fits b=true):
 Calls prog 116 #[va,vb] w (ZR w M (a*b)):=by
 refine wid ?_;obtain⟨A,n,c,rfl,hx⟩:=ha;obtain⟨B,m,d,rfl,hy⟩:=hb;have hn:n<=2048:=by have h:=of_decide_eq_true fa;rw[hx.eu]at h;exact h
 have hm:m<=2048:=by have h:=of_decide_eq_true fb;rw[hy.eu]at h;exact h
 obtain⟨na,hna⟩:=aC (aG a);obtain⟨nb,hnb⟩:=aC (aG b);have hres:gJ (na !=nb) (a.natAbs*b.natAbs)=a*b:=by rw[<-hna,<-hnb];exact Yy a b
 rw[hna,hnb];obtain⟨W1,hW1⟩:=aC ((((w.alloc (.cells #[.bool na,.slice A n c] 28)).alloc (.cells #[.bool nb,.slice B m d] 28)).alloc (.cells #[.bool false,.slice none 0 0] 28)).alloc (.cells #[.int .i64 0] 31));have F1:F4 w W1 na nb (.slice A n c) (.slice B m d):=by rw[<-hW1];exact F4.start w na nb _ _ rfl rfl
 have hx2:=((hx.more (b:=w.heap.size+1+1+1) (by omega)).more (b:=w.heap.size+1+1) (by omega)).keep (Keeps.of_below F1.bl _);have hy2:=((hy.more (b:=w.heap.size+1+1+1) (by omega)).more (b:=w.heap.size+1+1) (by omega)).keep (Keeps.of_below F1.bl _);have hM2:b_ ((w.heap.size+1+1)::(w.heap.size+1+1+1)::M) W1:=fun k hk=>by have:=F1.sz;exact ad3
 have X:=fB hx2 hy2 hM2;have F:=Hd F1;have HZ:=Hd2 hna hnb;have HF:=Hd2 fa fb;have e0:=F1.a0;have e1:=F1.a1;have e2:=F1.b0;have e3:=F1.b1;have SB:Sl lG (W1.alloc (.cells #[.bool na,.slice A n c,.bool nb,.slice B m d] 28)) ((w.heap.size+1+1)::(w.heap.size+1+1+1)::M) (some ⟨W1.heap.size,0,none⟩) 2 2 ([a,b].map jk):=by
  have e: [a,b].map jk= [(na,ints (bG a)),(nb,ints (bG b))]:=by simp[jk,hna,hnb]
  rw[e];exact Sl.QF hM2 hx2 hy2
 have yU:=Hd SB;clear hx hy hM hx2 hy2 hM2 F1 hna hnb fa fb SB;refine qj func116 rfl ntmps116 ?_;gi_wp2_with (refine Cl 78 (iR _ 2 2 [a,b] _ yU.out (by simp[HF.out.1,HF.out.2])) ?_;rintro e w2 ⟨rfl,hb2⟩;have hb3:Below W1.heap.size W1 w2:=((Below.refl W1.heap.size W1).alloc (Nat.le_refl _) (.cells #[.bool na,.slice A n c,.bool nb,.slice B m d] 28)).trans (hb2.mono (by simp));have F2:=F.out.go hb3;have v0:=ah F2.a0;have v1:=ah F2.a1;have v2:=ah F2.b0;have v3:=ah F2.b1;have G2:=Hd2 F2 hb3;clear hb2 hb3 F2)
 refine iF [] 10 3 [0,1,2,3,4,5,6,7,8,9] (by kernel_rfl) (by kernel_rfl) rfl ?_;refine eH ?_;refine aH fun K hK=>aA rfl rfl wy fun K' hK'=>?_;gi_wp2;refine Cm (Wh (x:=a.natAbs) (y:=b.natAbs) (X.out.2.2.le (w':=w2.drew) G2.out.2.size) ((X.out.1.go G2.out.2).keep (Keeps.refl _ _).drew) ((X.out.2.1.go G2.out.2).keep (Keeps.refl _ _).drew) (by omega) (by omega)) ?_;rintro e w3 ⟨A3,n3,c3,rfl,hs3,hb3⟩;have G3:=Hd2 hs3 hb3;clear hs3;refine hK' _ _ ⟨?_,hK _ _ ?_⟩;clear hK' K' hK K;·exact Keeps.of_below hb3 []
 refine lit ?_;clear hb3 v0 v1 v2 v3;refine aK ?_;have F3:=(show F4 w w2.drew na nb (.slice A n c) (.slice B m d)from⟨G2.out.1.a0,G2.out.1.a1,G2.out.1.b0,G2.out.1.b1,G2.out.1.x0,G2.out.1.x1,G2.out.1.e0,G2.out.1.f0,G2.out.1.f1,G2.out.1.fe,G2.out.1.bl.drew,G2.out.1.sz⟩).go G3.out.2;have HF3:=Hd F3;have C9:b_ ((w.heap.size+1+1)::(w.heap.size+1+1+1)::M) w3:=X.out.2.2.le (Nat.le_trans G2.out.2.size G3.out.2.size);clear F3;cases hf:fits (a*b);·have Z:=Hd2 (Jw hf) (Jy hf);refine uj fun K hK=>?_;refine oP rfl ?_ (fun K' hK'=>?_);(focus exact wy);gi_wp2;rw[show(!na==nb)=(na !=nb)from by cases na<;>cases nb<;>rfl];refine Cm (QE (v:=a.natAbs*b.natAbs) G3.out.1 (aO _) (bI _) (by rw[hres];exact hf)) ?_;rintro e w4 ⟨rfl,hb4⟩;have JU:=HF3.out.go hb4;refine leavesIn_cons (f:=77) (args:=#[.pointer (some ⟨w.heap.size+1+1+1,0,none⟩)]) (by simp) (by simp) (by simp[go_sem]) (fun _ _=>trivial) ?_;refine(Ef ⟨w.heap.size+1+1+1,0,none⟩ 2 0 [] _ JU.e0 JU.fe).mono ?_;rintro e u' w'' ⟨rfl,rfl,rfl⟩;have c0:=JU.x0;have c1:=JU.x1;have c2:=JU.e0;refine⟨.tuple #[.agg #[.bool false,.slice none 0 0],.int .i64 2],?_,.agg #[.bool false,.slice none 0 0],by rw[Z.out.1],by rw[Z.out.2];exact ZV.zero _ _,JU.bl.setCell (p:=⟨w.heap.size+1+1+1,0,none⟩) (by simp;omega) _⟩;simp[results,results116,go_sem,c0,c1,c2]
 ·have Z:=Hd2 (nJ hf) (nK hf);refine uj fun K hK=>?_;refine oP rfl ?_ (fun K' hK'=>?_);(focus exact wy);gi_wp2;rw[show(!na==nb)=(na !=nb)from by cases na<;>cases nb<;>rfl];refine Cm (Wv (v:=a.natAbs*b.natAbs) C9 G3.out.1 (aO _) (bI _) (by rw[hres];exact hf)) ?_;rintro e w4 ⟨u,rfl,⟨A4,n4,c4,rfl,hs4⟩,hb4⟩;rw[hres]at hs4 |-;have JU:=HF3.out.go hb4;have H4:=Hd2 hs4 JU;have c0:=JU.x0;have c1:=JU.x1;have c2:=JU.e0;have d0:=JU.f0;have d1:=JU.f1;have d2:=JU.fe;clear hs4 JU hb4;refine hK' _ _ (hK _ _ ?_);clear hK' K' hK K;refine lit ?_;refine jW fun K hK K' hK'=>?_;gi_wp2;refine jW fun K hK K' hK'=>?_;gi_wp2;refine tail_nil _ ?_;gi_wp2;obtain⟨wF,hwF⟩:=aC (((w4.setCell ⟨w.heap.size+1+1,0,none⟩ (.bool (aG (a*b)))).setCell ⟨w.heap.size+1+1,1,none⟩ (.slice A4 n4 c4)).setCell ⟨w.heap.size+1+1+1,0,none⟩ (.int .i64 0));have kF:Keeps ((w.heap.size+1+1)::(w.heap.size+1+1+1)::M) w4 wF:=by
   rw[<-hwF];exact(((Keeps.refl _ _).setCell (p:=⟨w.heap.size+1+1,0,none⟩) (.inl (by simp)) _).setCell (p:=⟨w.heap.size+1+1,1,none⟩) (.inl (by simp)) _).setCell (p:=⟨w.heap.size+1+1+1,0,none⟩) (.inl (by simp)) _
  have bF:Below w.heap.size w wF:=by rw[<-hwF];exact((H4.out.2.bl.setCell (p:=⟨w.heap.size+1+1,0,none⟩) (by simp;omega) _).setCell (p:=⟨w.heap.size+1+1,1,none⟩) (by simp;omega) _).setCell (p:=⟨w.heap.size+1+1+1,0,none⟩) (by simp;omega) _
  have r0:wF.cell? ⟨w.heap.size+1+1,0,none⟩=some (.bool (aG (a*b))):=by rw[<-hwF];simp[go_sem,c0,c1,c2]
  have r1:wF.cell? ⟨w.heap.size+1+1,1,none⟩=some (.slice A4 n4 c4):=by rw[<-hwF];simp[go_sem,c0,c1,c2]
  have r2:wF.cell? ⟨w.heap.size+1+1+1,0,none⟩=some (.int .i64 0):=by rw[<-hwF];simp[go_sem,c0,c1,c2]
  refine leavesIn_cons (f:=77) (args:=#[.pointer (some ⟨w.heap.size+1+1+1,0,none⟩)]) (by simp) (by simp) (by simp[go_sem]) (fun _ _=>trivial) ?_;rw[hwF];refine(iJ ⟨w.heap.size+1+1+1,0,none⟩ _).mono ?_;rintro e u' w'' ⟨rfl,rfl,rfl⟩;refine⟨.tuple #[.agg #[.bool (aG (a*b)),.slice A4 n4 c4],.int .i64 0],?_,_,by rw[Z.out.1],by rw[Z.out.2];exact⟨A4,n4,c4,rfl,(H4.out.1.keep kF).less (fun k hk=>by simp[hk])⟩,bF⟩;simp[results,results116,go_sem,r0,r1,r2]
structure F1(w W:World):Prop where
 x0:W.cell? ⟨w.heap.size,0,none⟩=some (.bool false)
 x1:W.cell? ⟨w.heap.size,1,none⟩=some (.slice none 0 0)
 f0:W.frozen? ⟨w.heap.size,0,none⟩=false
 f1:W.frozen? ⟨w.heap.size,1,none⟩=false
 bl:Below w.heap.size w W
 sz:w.heap.size+1<=W.heap.size
theorem F1.go(h:F1 w W)(hb:Below W.heap.size W W'):F1 w W':=by have hs:=h.sz;exact⟨(hb.cell (p:=⟨w.heap.size,0,none⟩) (show w.heap.size<_ by omega)).trans h.x0,(hb.cell (p:=⟨w.heap.size,1,none⟩) (show w.heap.size<_ by omega)).trans h.x1,(hb.frozen (p:=⟨w.heap.size,0,none⟩) (show w.heap.size<_ by omega)).trans h.f0,(hb.frozen (p:=⟨w.heap.size,1,none⟩) (show w.heap.size<_ by omega)).trans h.f1,h.bl.trans (hb.mono h.bl.size),by have:=hb.size;omega⟩
theorem F1.start(w:World):F1 w (w.alloc (.cells #[.bool false,.slice none 0 0] 28)):=⟨by simp[go_sem],by simp[go_sem],by simp[go_sem],by simp[go_sem],by exact bel,by simp⟩
theorem F1.fin(h:F1 w W){n:Nat}(hz:ZV W (w.heap.size::M) (.agg #[.bool q,.slice A n c]) z):
 ZV ((W.setCell ⟨w.heap.size,0,none⟩ (.bool q)).setCell ⟨w.heap.size,1,none⟩ (.slice A n c)) M (.agg #[.bool q,.slice A n c]) z/\Below w.heap.size w ((W.setCell ⟨w.heap.size,0,none⟩ (.bool q)).setCell ⟨w.heap.size,1,none⟩ (.slice A n c)):=by
 obtain⟨A',n',c',e,hs⟩:=hz;refine⟨⟨A',n',c',e,(hs.keep (((Keeps.refl _ W).setCell (p:=⟨w.heap.size,0,none⟩) (.inl (by simp)) _).setCell (p:=⟨w.heap.size,1,none⟩) (.inl (by simp)) _)).less (fun k hk=>List.mem_cons_of_mem _ hk)⟩,?_⟩;exact(h.bl.setCell (p:=⟨w.heap.size,0,none⟩) (Nat.le_refl _) _).setCell (p:=⟨w.heap.size,1,none⟩) (Nat.le_refl _) _
theorem N_(h:aG a≠aG b)(fa:fits a=true)(fb:fits b=true):fits (a+b)=true:=by
 have h2:¬((a<0)↔(b<0)):=fun e=>h (decide_eq_decide.2 e);rcases Int.lt_or_le a.natAbs b.natAbs with c|c;·exact jZ (show(a+b).natAbs<=b.natAbs by omega) fb
 exact jZ (show(a+b).natAbs<=a.natAbs by omega) fa
theorem yu{n:Nat}(hM:b_ M w)(hx:Sl Int w M A n c (ints (bC v)))(hz:gJ neg v=z)(hf:fits z=true):
 Calls prog 80 #[.bool neg,.slice A n c] w fun e w'=>∃q A4 n4 c4,e=.returned (.agg #[.bool q,.slice A4 n4 c4])/\ZV w' M (.agg #[.bool q,.slice A4 n4 c4]) z/\Below w.heap.size w w':=by
 subst hz;refine(Wv hM hx (aO _) (bI _) hf).mono ?_;rintro e w' ⟨u,rfl,⟨A4,n4,c4,rfl,hs⟩,hb⟩;exact⟨_,A4,n4,c4,rfl,⟨A4,n4,c4,rfl,hs⟩,hb⟩
theorem Ze{n:Nat}(hx:Sl Int w M A n c (ints (bC v)))(hz:gJ neg v=z)(hf:fits z=false):
 Calls prog 80 #[.bool neg,.slice A n c] w fun e w'=>e=Wx 2/\Below w.heap.size w w':=by
 subst hz;exact QE hx (aO _) (bI _) hf
theorem Eh{n:Nat}(hM:b_ M w)(hx:Sl Int w M A n c (ints (bG a)))(hy:Sl Int w M B m d (ints (bG b)))(fa:fits a=true)(fb:fits b=true):
 Calls prog 117 #[.bool (aG a),.slice A n c,.bool (aG b),.slice B m d] w fun e w'=>(fits (a+b)=true->∃q A4 n4 c4,e=.returned (.agg #[.bool q,.slice A4 n4 c4])/\ZV w' M (.agg #[.bool q,.slice A4 n4 c4]) (a+b))/\(fits (a+b)=false->e=Wx 2)/\Below w.heap.size w w':=by
 refine wid ?_;have hn:n<=2048:=by have h:=of_decide_eq_true fa;rw[hx.eu]at h;exact h
 have hm:m<=2048:=by have h:=of_decide_eq_true fb;rw[hy.eu]at h;exact h
 have hM2:b_ (w.heap.size::M) (w.alloc (.cells #[.bool false,.slice none 0 0] 28)):=fun k hk=>by
  simp only[List.mem_cons]at hk;rcases hk with rfl|hk;·simp
  have:=hM k hk;simp;omega
 obtain⟨W1,hW1⟩:=aC (w.alloc (.cells #[.bool false,.slice none 0 0] 28));have f1:F1 w W1:=by rw[<-hW1];exact F1.start w
 rw[hW1]at hM2;have X:=h_ ((hx.more (b:=w.heap.size) (Nat.le_refl _)).keep (Keeps.of_below f1.bl _)) ((hy.more (b:=w.heap.size) (Nat.le_refl _)).keep (Keeps.of_below f1.bl _)) hM2 f1;have HF:=Hd2 fa fb;clear hx hy hM hM2 f1;by_cases hs:aG a=aG b
 ·have hr:=add_same hs;rw[<-hs];obtain⟨na,hna⟩:=aC (aG a);rw[hna]at hr |-;have hq:(na==na)=true:=by simp
  clear hs hna fa fb;cases hf:fits (a+b)
  ·have Ny:=Hd hf;clear hf;refine sH func117 rfl ntmps117 ?_;simp only[List.length_cons]
   gi_wp2_with (first
    |(refine Cl 80 (Ze (v:=a.natAbs+b.natAbs) G.out.1 hr Ny.out) ?_;rintro e w3 ⟨rfl,hb3⟩;have G3:=Hd (G.out.2.go hb3);clear hb3)
    |(refine Cl 164 (LQ (x:=a.natAbs) (y:=b.natAbs) X.out.2.2.1 X.out.1 X.out.2.1 (by omega) (by omega)) ?_;rintro e w2 ⟨A2,n2,c2,rfl,hs2,hb2⟩;have G:=Hd2 hs2 (X.out.2.2.2.go hb2);clear hs2 hb2)
    |fail)
   exact⟨(fun h=>by cases h),fun _=>rfl,G3.out.bl⟩
  have Ny:=Hd hf;clear hf;refine sH func117 rfl ntmps117 ?_;simp only[List.length_cons]
  gi_wp2_with (first
   |(refine Cl 80 (yu (v:=a.natAbs+b.natAbs) (X.out.2.2.1.le G.out.2.2.size) G.out.1 hr Ny.out) ?_;rintro e w3 ⟨q,A4,n4,c4,rfl,Ie,hb3⟩;have G3:=Hd2 (G.out.2.1.go hb3) Ie;have c0:=G3.out.1.x0;have c1:=G3.out.1.x1;have d0:=G3.out.1.f0;have d1:=G3.out.1.f1;clear hb3 Ie)
   |(refine Cl 164 (LQ (x:=a.natAbs) (y:=b.natAbs) X.out.2.2.1 X.out.1 X.out.2.1 (by omega) (by omega)) ?_;rintro e w2 ⟨A2,n2,c2,rfl,hs2,hb2⟩;have G:=fB hs2 (X.out.2.2.2.go hb2) hb2;clear hs2 hb2)
   |fail)
  exact adv
 ·have hf:=N_ hs fa fb;rw[hf];have Ny:=Hd hf;obtain⟨na,hna⟩:=aC (aG a);obtain⟨nb,hnb⟩:=aC (aG b);have hs2:aG b≠aG a:=fun e=>hs e.symm;have hr1:b.natAbs<=a.natAbs->gJ na (a.natAbs-b.natAbs)=a+b:=fun h=>by rw[<-hna];exact Ht hs h
  have hr2:a.natAbs<=b.natAbs->gJ nb (b.natAbs-a.natAbs)=a+b:=fun h=>by rw[<-hnb,Int.add_comm];exact Ht hs2 h
  rw[hna,hnb]at hs |-;have hq:(na==nb)=false:=by simpa using hs
  clear hs hna hnb fa fb hs2 hf;obtain⟨cz,hcz⟩:=aC (qK a.natAbs b.natAbs);have HC:=Hd hcz;by_cases hle:b.natAbs<=a.natAbs
  ·have hr:=hr1 hle;have hcn:0<=cz:=by
    rw[<-hcz];rcases Nat.lt_or_ge b.natAbs a.natAbs with h|h;·rw[pJ h];decide
    rw[uM (by omega)];decide
   clear hcz hr1 hr2;refine sH func117 rfl ntmps117 ?_;simp only[List.length_cons]
   gi_wp2_with (first
    |(refine Cl 80 (yu (v:=a.natAbs-b.natAbs) (X.out.2.2.1.le G.out.2.2.size) G.out.1 hr Ny.out) ?_;rintro e w3 ⟨q,A4,n4,c4,rfl,Ie,hb3⟩;have G3:=Hd2 (G.out.2.1.go hb3) Ie;have c0:=G3.out.1.x0;have c1:=G3.out.1.x1;have d0:=G3.out.1.f0;have d1:=G3.out.1.f1;clear hb3 Ie)
    |(refine Cl 165 (LW (x:=a.natAbs) (y:=b.natAbs) (X.out.2.2.1.le HB.out.size) (X.out.1.go HB.out) (X.out.2.1.go HB.out) (by omega) hle) ?_;rintro e w2 ⟨A2,n2,c2,rfl,hs2,hb2⟩;have G:=fB hs2 ((X.out.2.2.2.go HB.out).go hb2) (HB.out.trans (hb2.mono HB.out.size));clear hs2 hb2)
    |(refine Cl 111 (jo A B n c m d a.natAbs b.natAbs _ X.out.1 X.out.2.1) ?_;rintro e w1 ⟨rfl,hb1⟩;rw[HC.out];have HB:=Hd hb1;clear hb1)
    |fail)
   exact adv
  have hr:=hr2 (by omega);have hcn:¬0<=cz:=by rw[<-hcz,pI (by omega)];decide
  clear hcz hr1 hr2;refine sH func117 rfl ntmps117 ?_;simp only[List.length_cons]
  gi_wp2_with (first
   |(refine Cl 80 (yu (v:=b.natAbs-a.natAbs) (X.out.2.2.1.le G.out.2.2.size) G.out.1 hr Ny.out) ?_;rintro e w3 ⟨q,A4,n4,c4,rfl,Ie,hb3⟩;have G3:=Hd2 (G.out.2.1.go hb3) Ie;have c0:=G3.out.1.x0;have c1:=G3.out.1.x1;have d0:=G3.out.1.f0;have d1:=G3.out.1.f1;clear hb3 Ie)
   |(refine Cl 165 (LW (x:=b.natAbs) (y:=a.natAbs) (X.out.2.2.1.le HB.out.size) (X.out.2.1.go HB.out) (X.out.1.go HB.out) (by omega) (by omega)) ?_;rintro e w2 ⟨A2,n2,c2,rfl,hs2,hb2⟩;have G:=fB hs2 ((X.out.2.2.2.go HB.out).go hb2) (HB.out.trans (hb2.mono HB.out.size));clear hs2 hb2)
   |(refine Cl 111 (jo A B n c m d a.natAbs b.natAbs _ X.out.1 X.out.2.1) ?_;rintro e w1 ⟨rfl,hb1⟩;rw[HC.out];have HB:=Hd hb1;clear hb1)
   |fail)
  exact adv
theorem Ig{n:Nat}(hM:b_ M w)(hx:Sl Int w M A n c (ints (bG a)))(hy:Sl Int w M B m d (ints (bG b))):
 ∃W1:World,(((w.alloc (.cells #[.bool (aG a),.slice A n c] 28)).alloc (.cells #[.bool (aG b),.slice B m d] 28)).alloc (.cells #[.bool false,.slice none 0 0] 28)).alloc (.cells #[.int .i64 0] 31)=W1/\
  F4 w W1 (aG a) (aG b) (.slice A n c) (.slice B m d)/\Sl Int W1 ((w.heap.size+1+1)::(w.heap.size+1+1+1)::M) A n c (ints (bG a))/\Sl Int W1 ((w.heap.size+1+1)::(w.heap.size+1+1+1)::M) B m d (ints (bG b))/\
  b_ ((w.heap.size+1+1)::(w.heap.size+1+1+1)::M) W1/\Sl lG (W1.alloc (.cells #[.bool (aG a),.slice A n c,.bool (aG b),.slice B m d] 28)) ((w.heap.size+1+1)::(w.heap.size+1+1+1)::M) (some ⟨W1.heap.size,0,none⟩) 2 2 ([a,b].map jk):=by
 obtain⟨W1,hW1⟩:=aC ((((w.alloc (.cells #[.bool (aG a),.slice A n c] 28)).alloc (.cells #[.bool (aG b),.slice B m d] 28)).alloc (.cells #[.bool false,.slice none 0 0] 28)).alloc (.cells #[.int .i64 0] 31));have F1:F4 w W1 (aG a) (aG b) (.slice A n c) (.slice B m d):=by rw[<-hW1];exact F4.start w _ _ _ _ rfl rfl
 have hx2:=((hx.more (b:=w.heap.size+1+1+1) (by omega)).more (b:=w.heap.size+1+1) (by omega)).keep (Keeps.of_below F1.bl _);have hy2:=((hy.more (b:=w.heap.size+1+1+1) (by omega)).more (b:=w.heap.size+1+1) (by omega)).keep (Keeps.of_below F1.bl _);have hM2:b_ ((w.heap.size+1+1)::(w.heap.size+1+1+1)::M) W1:=fun k hk=>by have:=F1.sz;exact ad3
 exact⟨W1,hW1,F1,hx2,hy2,hM2,Sl.QF hM2 hx2 hy2⟩
theorem F4.fin(h:F4 w w4 na nb va vb){n:Nat}(hz:ZV w4 ((w.heap.size+1+1)::(w.heap.size+1+1+1)::M) (.agg #[.bool q,.slice A n c]) z):
 ∃wF,((w4.setCell ⟨w.heap.size+1+1,0,none⟩ (.bool q)).setCell ⟨w.heap.size+1+1,1,none⟩ (.slice A n c)).setCell ⟨w.heap.size+1+1+1,0,none⟩ (.int .i64 0)=wF/\wF.cell? ⟨w.heap.size+1+1,0,none⟩=some (.bool q)/\wF.cell? ⟨w.heap.size+1+1,1,none⟩=some (.slice A n c)/\wF.cell? ⟨w.heap.size+1+1+1,0,none⟩=some (.int .i64 0)/\ZV wF M (.agg #[.bool q,.slice A n c]) z/\Below w.heap.size w wF:=by
 refine⟨_,rfl,?_,?_,?_,?_,?_⟩;·exact aex
 ·exact aex
 ·exact aex
 ·obtain⟨A',n',c',e,hs⟩:=hz;exact⟨A',n',c',e,(hs.keep ((((Keeps.refl _ _).setCell (p:=⟨w.heap.size+1+1,0,none⟩) (.inl (by simp)) _).setCell (p:=⟨w.heap.size+1+1,1,none⟩) (.inl (by simp)) _).setCell (p:=⟨w.heap.size+1+1+1,0,none⟩) (.inl (by simp)) _)).less (fun k hk=>by simp[hk])⟩
 ·exact((h.bl.setCell (p:=⟨w.heap.size+1+1,0,none⟩) (by simp;omega) _).setCell (p:=⟨w.heap.size+1+1,1,none⟩) (by simp;omega) _).setCell (p:=⟨w.heap.size+1+1+1,0,none⟩) (by simp;omega) _
theorem WG(hM:b_ M w)(ha:ZV w M va a)(hb:ZV w M vb b)(fa:fits a=true)(fb:fits b=true):
 Calls prog 85 #[va,vb] w (ZR w M (a+b)):=by
 refine wid ?_;obtain⟨A,n,c,rfl,hx⟩:=ha;obtain⟨B,m,d,rfl,hy⟩:=hb;obtain⟨W1,hW1,F1,hx2,hy2,hM2,SB⟩:=Ig hM hx hy;have X:=fB hx2 hy2 hM2;have F:=Hd F1;have HF:=Hd2 fa fb;have e0:=F1.a0;have e1:=F1.a1;have e2:=F1.b0;have e3:=F1.b1;have yU:=Hd SB;clear hx hy hM hx2 hy2 hM2 F1 fa fb SB;cases hf:fits (a+b)
 ·have Z:=Hd2 (Jw hf) (Jy hf);have Ny:=Hd hf;clear hf;refine qj func85 rfl ntmps85 ?_
  gi_wp2_with (first
   |(refine Cl 117 (Eh (X.out.2.2.le G2.out.2.size) (X.out.1.go G2.out.2) (X.out.2.1.go G2.out.2) HF.out.1 HF.out.2) ?_;rintro e w3 ⟨-,h2,hb3⟩;obtain rfl:=h2 Ny.out;have G3:=Hd (G2.out.1.go hb3);clear hb3 h2)
   |(refine Cl 78 (iR _ 2 2 [a,b] _ yU.out (by simp[HF.out.1,HF.out.2])) ?_;rintro e w2 ⟨rfl,hb2⟩;have hb3:Below W1.heap.size W1 w2:=((Below.refl W1.heap.size W1).alloc (Nat.le_refl _) (.cells #[.bool (aG a),.slice A n c,.bool (aG b),.slice B m d] 28)).trans (hb2.mono (by simp));have F2:=F.out.go hb3;have v0:=F2.a0;have v1:=F2.a1;have v2:=F2.b0;have v3:=F2.b1;have G2:=Hd2 F2 hb3;clear hb2 hb3 F2)
   |fail)
  refine leavesIn_cons (f:=77) (args:=#[.pointer (some ⟨w.heap.size+1+1+1,0,none⟩)]) (by simp) (by simp) (by simp[go_sem]) (fun _ _=>trivial) ?_;refine(Ef ⟨w.heap.size+1+1+1,0,none⟩ 2 0 [] _ G3.out.e0 G3.out.fe).mono ?_;rintro e u' w'' ⟨rfl,rfl,rfl⟩;have c0:=G3.out.x0;have c1:=G3.out.x1;have c2:=G3.out.e0;refine⟨.tuple #[.agg #[.bool false,.slice none 0 0],.int .i64 2],?_,.agg #[.bool false,.slice none 0 0],by rw[Z.out.1],by rw[Z.out.2];exact ZV.zero _ _,G3.out.bl.setCell (p:=⟨w.heap.size+1+1+1,0,none⟩) (by simp;omega) _⟩;simp[results,results85,go_sem,c0,c1,c2]
 ·have Z:=Hd2 (nJ hf) (nK hf);have Ny:=Hd hf;clear hf;refine qj func85 rfl ntmps85 ?_
  gi_wp2_with (first
   |(refine Cl 117 (Eh (X.out.2.2.le G2.out.2.size) (X.out.1.go G2.out.2) (X.out.2.1.go G2.out.2) HF.out.1 HF.out.2) ?_;rintro e w3 ⟨h1,-,hb3⟩;obtain⟨q,A4,n4,c4,rfl,Ie⟩:=h1 Ny.out;have G3:=Hd2 (G2.out.1.go hb3) Ie;have c0:=G3.out.1.x0;have c1:=G3.out.1.x1;have c2:=G3.out.1.e0;have d0:=G3.out.1.f0;have d1:=G3.out.1.f1;have d2:=G3.out.1.fe;clear hb3 h1 Ie)
   |(refine Cl 78 (iR _ 2 2 [a,b] _ yU.out (by simp[HF.out.1,HF.out.2])) ?_;rintro e w2 ⟨rfl,hb2⟩;have hb3:Below W1.heap.size W1 w2:=((Below.refl W1.heap.size W1).alloc (Nat.le_refl _) (.cells #[.bool (aG a),.slice A n c,.bool (aG b),.slice B m d] 28)).trans (hb2.mono (by simp));have F2:=F.out.go hb3;have v0:=F2.a0;have v1:=F2.a1;have v2:=F2.b0;have v3:=F2.b1;have G2:=Hd2 F2 hb3;clear hb2 hb3 F2)
   |fail)
  obtain⟨wF,hwF,r0,r1,r2,WH,bF⟩:=G3.out.1.fin G3.out.2;refine leavesIn_cons (f:=77) (args:=#[.pointer (some ⟨w.heap.size+1+1+1,0,none⟩)]) (by simp) (by simp) (by simp[go_sem]) (fun _ _=>trivial) ?_;rw[hwF];refine(iJ ⟨w.heap.size+1+1+1,0,none⟩ _).mono ?_;rintro e u' w'' ⟨rfl,rfl,rfl⟩;refine⟨.tuple #[.agg #[.bool q,.slice A4 n4 c4],.int .i64 0],?_,.agg #[.bool q,.slice A4 n4 c4],by rw[Z.out.1],by rw[Z.out.2];exact WH,bF⟩;simp[results,results85,go_sem,r0,r1,r2]
theorem Tn{n:Nat}(pe pq pr:Addr)(u:FrameMode)(w:World)(hc:w.cell? pe=some (.int .i64 0)):
 CallsDIn Fence.wide n prog 166 #[.pointer (some pe),.pointer (some pq),.pointer (some pr)] u w fun e u' w'=>u'=u/\(e=.returned (.tuple #[])/\w'=w):=by
 refine callsDIn_of_wp func166 rfl trivial ?_;simp only[ntmps166,List.size_toArray,List.length_cons,List.length_nil,Nat.reduceAdd,Nat.reduceSub,Array.replicate_succ,Array.replicate_zero,List.push_toArray,List.append_toArray,List.nil_append,List.cons_append];gi_wp2;go_end0;exact⟨rfl,rfl⟩
structure F5(w W:World)(na nb:Bool)(va vb:Value):Prop where
 a0:W.cell? ⟨w.heap.size,0,none⟩=some (.bool na)
 a1:W.cell? ⟨w.heap.size,1,none⟩=some va
 b0:W.cell? ⟨w.heap.size+1,0,none⟩=some (.bool nb)
 b1:W.cell? ⟨w.heap.size+1,1,none⟩=some vb
 x0:W.cell? ⟨w.heap.size+1+1,0,none⟩=some (.bool false)
 x1:W.cell? ⟨w.heap.size+1+1,1,none⟩=some (.slice none 0 0)
 y0:W.cell? ⟨w.heap.size+1+1+1,0,none⟩=some (.bool false)
 y1:W.cell? ⟨w.heap.size+1+1+1,1,none⟩=some (.slice none 0 0)
 e0:W.cell? ⟨w.heap.size+1+1+1+1,0,none⟩=some (.int .i64 0)
 f0:W.frozen? ⟨w.heap.size+1+1,0,none⟩=false
 f1:W.frozen? ⟨w.heap.size+1+1,1,none⟩=false
 g0:W.frozen? ⟨w.heap.size+1+1+1,0,none⟩=false
 g1:W.frozen? ⟨w.heap.size+1+1+1,1,none⟩=false
 fe:W.frozen? ⟨w.heap.size+1+1+1+1,0,none⟩=false
 bl:Below w.heap.size w W
 sz:w.heap.size+5<=W.heap.size
theorem F5.go(h:F5 w W na nb va vb)(hb:Below W.heap.size W W'):F5 w W' na nb va vb:=by have hs:=h.sz;have c:∀(k o:Nat) (u:Value),k<w.heap.size+5->W.cell? ⟨k,o,none⟩=some u->W'.cell? ⟨k,o,none⟩=some u:=fun k o u hk hu=>(hb.cell (p:=⟨k,o,none⟩) (show k<_ by omega)).trans hu;have f:∀(k o:Nat),k<w.heap.size+5->W.frozen? ⟨k,o,none⟩=false->W'.frozen? ⟨k,o,none⟩=false:=fun k o hk hu=>(hb.frozen (p:=⟨k,o,none⟩) (show k<_ by omega)).trans hu;exact⟨c _ _ _ (by omega) h.a0,c _ _ _ (by omega) h.a1,c _ _ _ (by omega) h.b0,c _ _ _ (by omega) h.b1,c _ _ _ (by omega) h.x0,c _ _ _ (by omega) h.x1,c _ _ _ (by omega) h.y0,c _ _ _ (by omega) h.y1,c _ _ _ (by omega) h.e0,f _ _ (by omega) h.f0,f _ _ (by omega) h.f1,f _ _ (by omega) h.g0,f _ _ (by omega) h.g1,f _ _ (by omega) h.fe,h.bl.trans (hb.mono h.bl.size),by have:=hb.size;omega⟩
theorem F5.start(w:World)(na nb:Bool)(va vb:Value)(ha:va.cells=#[va])(hb:vb.cells=#[vb]):
 F5 w (((((w.alloc (.cells #[.bool na,va] 28)).alloc (.cells #[.bool nb,vb] 28)).alloc (.cells #[.bool false,.slice none 0 0] 28)).alloc (.cells #[.bool false,.slice none 0 0] 28)).alloc (.cells #[.int .i64 0] 31)) na nb va vb:=
 ⟨by simp[go_sem],by simp[go_sem],by simp[go_sem],by simp[go_sem],by simp[go_sem],by simp[go_sem],by simp[go_sem],by simp[go_sem],by simp[go_sem],by simp[go_sem],by simp[go_sem],by simp[go_sem],by simp[go_sem],by simp[go_sem],by exact bel,by simp⟩
theorem Tq:fits 0=true:=by simp[fits,bG,bU]
theorem F5.fin{MM:List Nat}(h:F5 w w4 na nb va vb){r:Bool}{n:Nat}{y:Int}(hz:ZV w4 MM (.agg #[.bool q,.slice A n c]) z)(hy:ZV w4 MM (.agg #[.bool r,.slice B m d]) y)
 (hM:∀k,k∈M->k∈MM) (hX:w.heap.size+1+1∈MM/\w.heap.size+1+1+1∈MM/\w.heap.size+1+1+1+1∈MM):
 ∃wF,((((w4.setCell ⟨w.heap.size+1+1,0,none⟩ (.bool q)).setCell ⟨w.heap.size+1+1,1,none⟩ (.slice A n c)).setCell ⟨w.heap.size+1+1+1,0,none⟩ (.bool r)).setCell ⟨w.heap.size+1+1+1,1,none⟩ (.slice B m d)).setCell ⟨w.heap.size+1+1+1+1,0,none⟩ (.int .i64 0)=wF/\
  wF.cell? ⟨w.heap.size+1+1,0,none⟩=some (.bool q)/\wF.cell? ⟨w.heap.size+1+1,1,none⟩=some (.slice A n c)/\wF.cell? ⟨w.heap.size+1+1+1,0,none⟩=some (.bool r)/\wF.cell? ⟨w.heap.size+1+1+1,1,none⟩=some (.slice B m d)/\
  wF.cell? ⟨w.heap.size+1+1+1+1,0,none⟩=some (.int .i64 0)/\ZV wF M (.agg #[.bool q,.slice A n c]) z/\ZV wF M (.agg #[.bool r,.slice B m d]) y/\Below w.heap.size w wF:=by
 have c0:=h.x0;have c1:=h.x1;have c2:=h.y0;have c3:=h.y1;have c4:=h.e0;have kp:=((((((Keeps.refl MM w4).setCell (p:=⟨w.heap.size+1+1,0,none⟩) (.inl hX.1) (.bool q)).setCell (p:=⟨w.heap.size+1+1,1,none⟩) (.inl hX.1) (.slice A n c)).setCell (p:=⟨w.heap.size+1+1+1,0,none⟩) (.inl hX.2.1) (.bool r)).setCell (p:=⟨w.heap.size+1+1+1,1,none⟩) (.inl hX.2.1) (.slice B m d)).setCell (p:=⟨w.heap.size+1+1+1+1,0,none⟩) (.inl hX.2.2) (.int .i64 0));refine⟨_,rfl,?_,?_,?_,?_,?_,?_,?_,?_⟩;·simp[go_sem,c0,c1,c2,c3,c4]
 ·simp[go_sem,c0,c1,c2,c3,c4]
 ·simp[go_sem,c0,c1,c2,c3,c4]
 ·simp[go_sem,c0,c1,c2,c3,c4]
 ·simp[go_sem,c0,c1,c2,c3,c4]
 ·obtain⟨A',n',c',e,hs⟩:=hz;exact⟨A',n',c',e,(hs.keep kp).less hM⟩
 ·obtain⟨A',n',c',e,hs⟩:=hy;exact⟨A',n',c',e,(hs.keep kp).less hM⟩
 ·have b:=h.bl;exact((((b.setCell (p:=⟨w.heap.size+1+1,0,none⟩) (by simp;omega) _).setCell (p:=⟨w.heap.size+1+1,1,none⟩) (by simp;omega) _).setCell (p:=⟨w.heap.size+1+1+1,0,none⟩) (by simp;omega) _).setCell (p:=⟨w.heap.size+1+1+1,1,none⟩) (by simp;omega) _).setCell (p:=⟨w.heap.size+1+1+1+1,0,none⟩) (by simp;omega) _
theorem L9(hM:b_ M w)(ha:ZV w M va a)(hb:ZV w M vb b)(fa:fits a=true)(fb:fits b=true)(hp:0<b)(h0:a.natAbs%b.natAbs=0):
 Calls prog 118 #[va,vb] w fun e w'=>∃u v,e=.returned (.tuple #[u,v,.int .i64 0])/\ZV w' M u (a/b)/\ZV w' M v 0/\Below w.heap.size w w':=by
 refine wid ?_;obtain⟨A,n,c,rfl,hx⟩:=ha;obtain⟨B,m,d,rfl,hy⟩:=hb;have hn:n<=2048:=by have h:=of_decide_eq_true fa;rw[hx.eu]at h;exact h
 have hm1:=hy.eu;have hm0:m≠0:=by intro e;rw[e]at hm1;have:=jO.1 (List.length_eq_zero_iff.1 hm1);omega
 have hzb:aG b=false:=decide_eq_false (by omega);have hr:=(SI (a:=a) (b:=b) (.inl h0) (by omega)).1;have hf:fits (a/b)=true:=by exact ad2
 rw[hzb]at hr;have hy0:0<b.natAbs:=by omega
 let MM:=(w.heap.size+1+1)::(w.heap.size+1+1+1)::(w.heap.size+1+1+1+1)::M;obtain⟨W1,hW1⟩:=aC (((((w.alloc (.cells #[.bool (aG a),.slice A n c] 28)).alloc (.cells #[.bool false,.slice B m d] 28)).alloc (.cells #[.bool false,.slice none 0 0] 28)).alloc (.cells #[.bool false,.slice none 0 0] 28)).alloc (.cells #[.int .i64 0] 31));have F1:F5 w W1 (aG a) false (.slice A n c) (.slice B m d):=by rw[<-hW1];exact F5.start w _ _ _ _ rfl rfl
 have hx2:Sl Int W1 MM A n c (ints (bG a)):=(((hx.more (b:=w.heap.size+1+1+1+1) (by omega)).more (b:=w.heap.size+1+1+1) (by omega)).more (b:=w.heap.size+1+1) (by omega)).keep (Keeps.of_below F1.bl _);have hy2:Sl Int W1 MM B m d (ints (bG b)):=(((hy.more (b:=w.heap.size+1+1+1+1) (by omega)).more (b:=w.heap.size+1+1+1) (by omega)).more (b:=w.heap.size+1+1) (by omega)).keep (Keeps.of_below F1.bl _);have hM2:b_ MM W1:=fun k hk=>by
  have:=F1.sz;simp only[MM,List.mem_cons]at hk;rcases hk with rfl|rfl|rfl|hk;·omega
  ·omega
  ·omega
  have:=hM k hk;omega
 have SB:=Sl.QF (na:=aG a) (nb:=false) hM2 hx2 hy2;have yU:Hid (Sl lG (W1.alloc (.cells #[.bool (aG a),.slice A n c,.bool false,.slice B m d] 28)) MM (some ⟨W1.heap.size,0,none⟩) 2 2 ([a,b].map jk)):=by
  have e: [a,b].map jk= [(aG a,ints (bG a)),(false,ints (bG b))]:=by simp[jk,hzb]
  rw[e];exact SB
 have X:=fB hx2 hy2 hM2;have F:=Hd F1;have HF:=Hd5 fa fb hf hr h0;have QG:=Hd (show ∀k,k∈M->k∈MM from fun k hk=>by simp[MM,hk]);have HMX:=Hd (show w.heap.size+1+1∈MM/\w.heap.size+1+1+1∈MM/\w.heap.size+1+1+1+1∈MM from by simp[MM]);have e0:=F1.a0;have e1:=F1.a1;have e2:=F1.b0;have e3:=F1.b1;have hmf:∀(fn:Fn) (first cap:Array Value) (w:World),(Instr.makeFunc fn first cap).run prog w=.ok (.func fn first cap) w:=fun _ _ _ _=>rfl
 clear_value MM
 rw[hzb];clear hx hy hM hx2 hy2 hM2 F1 fa fb SB hf hr h0 hzb hm1;generalize hna:aG a=na at*
 have hr2:gJ na (a.natAbs/b.natAbs)=a/b:=by have:=HF.out.2.2.2.1;rwa [show(na !=false)=na from by cases na<;>rfl]at this
 have HR:=Hd hr2;have FZ:=Hd Tq;clear hr2 hna;cases na;all_goals(
 refine qj func118 rfl ntmps118 ?_
 gi_wp2_with (first
  |(refine⟨trivial,?_⟩;gi_at_call 80;have g:=G4.out;clear g;refine Cn (yu (z:=0) (v:=0) (neg:=false) ((X.out.2.2.le G3.out.2.2.2.size).le G4.out.2.2.size) (G3.out.2.2.1.go G4.out.2.2) rfl FZ.out) ?_;rintro e w5 ⟨q5,A5,n5,c5,rfl,r_,hb5⟩;have Ug:=G4.out.1.go hb5;have k0:=Ug.x0;have k1:=Ug.x1;have k2:=Ug.y0;have k3:=Ug.y1;have k4:=Ug.e0;have d0:=Ug.f0;have d1:=Ug.f1;have d2:=Ug.g0;have d3:=Ug.g1;have d4:=Ug.fe;have G5:=fB Ug (G4.out.2.1.go hb5) r_;clear r_ hb5 Ug)
  |(refine Cl 80 (yu (v:=a.natAbs/b.natAbs) (X.out.2.2.le G3.out.2.2.2.size) G3.out.2.1 HR.out HF.out.2.2.1) ?_;rintro e w4 ⟨q4,A4,n4,c4,rfl,Ie,hb4⟩;have JU:=G3.out.1.go hb4;have G4:=fB JU Ie hb4;clear Ie hb4 JU)
  |(refine Cl 79 (L8 (x:=a.natAbs) (y:=b.natAbs) (X.out.2.2.le G2.out.2.size) (X.out.1.go G2.out.2) (X.out.2.1.go G2.out.2) (by omega) hy0) ?_;rintro e w3 ⟨O,q,cO,O2,q2,Z7,rfl,h1,h2,hb3⟩;have hq0:q2=0:=by
     have hl:=h2.eu;rw[HF.out.2.2.2.2,bU]at hl;exact hl.symm
    rw[HF.out.2.2.2.2]at h2;subst hq0;have F3:=G2.out.1.go hb3;have u0:=F3.a0;have u1:=F3.b0;have G3:=h_ F3 h1 h2 (G2.out.2.trans (hb3.mono G2.out.2.size));clear h1 h2 hb3 F3)
  |(refine Cl 78 (iR _ 2 2 [a,b] _ yU.out (by simp[HF.out.1,HF.out.2.1])) ?_;rintro e w2 ⟨rfl,hb2⟩;have hb3:Below W1.heap.size W1 w2:=((Below.refl W1.heap.size W1).alloc (Nat.le_refl _) _).trans (hb2.mono (by simp));have F2:=F.out.go hb3;have v0:=F2.a0;have v1:=F2.a1;have v2:=F2.b0;have v3:=F2.b1;have G2:=Hd2 F2 hb3;clear hb2 hb3 F2)
  |fail)
 clear k0 k1 k2 k3 k4 d0 d1 d2 d3 d4;obtain⟨wF,hwF,r0,r1,r2,r3,r4,WH,hyF,bF⟩:=G5.out.1.fin G5.out.2.1 G5.out.2.2 QG.out HMX.out;refine leavesIn_cons (f:=77) (args:=#[.pointer (some ⟨w.heap.size+1+1+1+1,0,none⟩)]) (by simp) (by simp) (by simp[go_sem]) (fun _ _=>trivial) ?_;rw[hwF];refine(iJ ⟨w.heap.size+1+1+1+1,0,none⟩ _).mono ?_;rintro e u' w'' ⟨rfl,rfl,rfl⟩;refine leavesIn_cons (f:=166) (args:=#[.pointer (some ⟨w.heap.size+1+1+1+1,0,none⟩),.pointer (some ⟨w.heap.size+1+1,0,none⟩),.pointer (some ⟨w.heap.size+1+1+1,0,none⟩)]) (by simp[settle]) (by simp[settle]) (by simp[go_sem]) (fun _ _=>trivial) ?_;refine(Tn _ _ _ _ _ r4).mono ?_;rintro e u' w'' ⟨rfl,rfl,rfl⟩;refine⟨.tuple #[.agg #[.bool q4,.slice A4 n4 c4],.agg #[.bool q5,.slice A5 n5 c5],.int .i64 0],?_,_,_,rfl,WH,hyF,bF⟩;simp[results,results118,go_sem,r0,r1,r2,r3,r4])
end
end Go.Proofs.YtefnknhjlejalaaGreatDoor
