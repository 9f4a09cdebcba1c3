/- Lemmas. -/
import Derived.RecoverIn
import Derived.Test.YtfdmnogfflcllaaGreatDoorM10
set_option linter.unusedVariables false
set_option linter.unusedSimpArgs false
set_option maxRecDepth 100000
set_option maxHeartbeats 20000000
namespace Go.Proofs.YtfdmnogfflcllaaGreatDoor
open Go.Proofs.Tryz Go.RowKit Go.Shelf
theorem Bh{p:Prop}(h:p:=by obtain⟨H,I⟩:=Y.a.fin Y.u;exact⟨.agg #[.bool q,.slice A4 n4 c4],by simp[results,go_sem,t,C],fun _=>⟨q,A4,n4,c4,rfl,H⟩,(fun h=>by cases h),I⟩):p:=h
theorem EM{p:Prop}(h:p:=by
 refine ent func137 rfl ntmps137 ?_;gi_wp2_with (first|(refine Cl 128 (lK _ _ c l _ j.out) ?_;rintro e C ⟨rfl,rfl⟩;rw[Z.out])|(refine⟨bq,?_⟩))
 go_ret;exact⟨rfl,h.out⟩):p:=h
theorem EO{p:Prop}(h:p:=by
 refine ent func137 rfl ntmps137 ?_;gi_wp2_with (refine⟨bq,?_⟩)
 go_ret;exact⟨rfl,h.out⟩):p:=h
theorem EW{p:Prop}(h:p:=by rw[f];clear f;refine ent func184 rfl ntmps184 ?_;gi_wp2;go_ret;exact⟨rfl,rfl⟩):p:=h
theorem I7{p:Prop}(h:p:=by refine ent func112 rfl ntmps112 ?_;gi_wp2;go_ret;exact⟨rfl,g.out⟩):p:=h
theorem Np{p:Prop}(h:p:=by have f:=h.x0;have C:=h.x1;have g:=h.e0;simp[go_sem,f,C,g]):p:=h
theorem O6{p:Prop}(h:p:=by exact((B.a.trans (f.mono (by rw[B.b];omega))).setCell (p:=⟨w,0,none⟩) pc _).setCell (p:=⟨w,1,none⟩) pc _):p:=h
theorem Y1{p:Prop}(h:p:=by gi_wp2;go_ret;exact⟨by rw[HZ.out,<-p.out,j.out];rfl,g.out⟩):p:=h
variable {M l:List Nat}{neg q na nb:Bool}{w W W' w4:World}{A B:Option Addr}{c k v y m d:Nat}{z a b:Int}{va vb:Value}
section
attribute [local go_sem] cK
def nI(d:Int):Bool:=decide (d<0)||decide (1073741823<d)
theorem YJ(l:List Int):l.any nI= !(l.all fun d=>decide (0<=d/\d<(BB:Int))):=by
 induction l with
 |nil=>rfl
 |cons d r ih=>
  rw[gP,List.all_cons,ih,Bool.not_and];congr 1;unfold nI;rw[<-BBi];by_cases e:d<0;·have:¬(0<=d/\d<1073741824):=oE;rw[cE this,cw e];rfl
  ·by_cases f:1073741823<d;·have:¬(0<=d/\d<1073741824):=oE;rw[cE this,cw f,Bool.or_true];rfl
   have:0<=d/\d<1073741824:=oE;rw[cw this,cE f,cE e];rfl
theorem Ed(d:Int)(w:World):Calls prog 184 #[.int .i64 d] w fun e w'=>e=.returned (.bool (nI d))/\w=w':=by
 refine wid ?_;by_cases g:d<0
 ·have f:nI d=true:=by simp[nI,g]
  exact EW
 by_cases r:1073741823<d
 ·have f:nI d=true:=by simp[nI,r]
  exact EW
 have f:nI d=false:=by simp[nI,g,r]
 exact EW
theorem acw(A:Option Addr)(n c:Nat)(l:List Int)(w:World)(hx:Sl Int w M A n c l):
 Calls prog 174 #[.slice A n c,.func (.func 184) #[] #[]] w fun e w'=>∃i:Int,e=.returned (.int .i64 i)/\decide (0<=i)=l.any nI/\w=w':=by
 refine wid ?_;have hs:=hx.small;have p:=hx.len;have H:=Hd hx;have HL:=Hd p;have u:=eK (P:=prog) func184 oF rfl;clear hx p;refine ent func174 rfl ntmps174 ?_;gi_wp2;gi_loop[8] (fun i=>∃k:Nat,k<=n/\i=.int .i64 k/\Hid ((l.drop k).any nI=l.any nI)) (fun i=>n-(intOf i).toNat);case atStart=>exact⟨0,bO _,rfl,rfl⟩
 case round=>
  obtain⟨k,C,rfl,r⟩:=hrel;by_cases s:k<n
  ·obtain⟨b,o,x,rfl,I,-,j,-⟩:=H.out.pR s;have f:=r.out;rw[j,gP]at f;generalize hox:nI x=ox at*;have h:=Hd hox;have g:=Hd f;clear hox f j;cases ox
   ·gi_wp2_with (refine Cl 184 (Ed x _) ?_;rintro e t ⟨rfl,rfl⟩;rw[h.out])
    go_round;case rel=>exact⟨k+1,oE,by go_num,by have:=g.out;rwa [jn]at this⟩
    case measure=>simp[intOf];omega
   gi_wp2_with (refine Cl 184 (Ed x _) ?_;rintro e t ⟨rfl,rfl⟩;rw[h.out])
   go_ret;exact⟨k,rfl,by rw[<-g.out,mT];simp,rfl⟩
  ·have f:=r.out;rw[cA (by rw[HL.out];omega)]at f;have g:=Hd f;clear f;gi_wp2;go_ret;exact⟨-1,rfl,by rw[<-g.out];rfl,rfl⟩
theorem lK(A:Option Addr)(n c:Nat)(l:List Int)(w:World)(hx:Sl Int w M A n c l):
 Calls prog 128 #[.slice A n c,.func (.func 184) #[] #[]] w fun e w'=>e=.returned (.bool (l.any nI))/\w=w':=by
 refine wid ?_;have H:=Hd hx;clear hx;refine ent func128 rfl ntmps128 ?_;gi_wp2_with (refine Cl 174 (acw A n c l _ H.out) ?_;rintro e g ⟨i,rfl,s,rfl⟩;have f:=Hd s;clear s)
 go_ret;exact⟨by rw[<-f.out];rfl,rfl⟩
theorem LY{l:List Int}{n:Nat}(hl:l.length=n):gZ (neg,l)=(decide (n<=2048)&& !(decide (n=0)&&neg)&&(l.getLast?.all fun d=>d !=0)&& !l.any nI):=by
 unfold gZ Lj;rw[YJ,Bool.not_not,hl];congr 4
 cases l with
 |nil=>simp at hl;subst hl;rfl
 |cons a r=>simp at hl;simp;intro e;omega
def rJ(b:Bool):Int:=if b then 0 else 90
theorem eF(A:Option Addr)(n c:Nat)(neg:Bool)(l:List Int)(w:World)(hx:Sl Int w M A n c l):
 CB 137 #[.agg #[.bool neg,.slice A n c]] (.int .i64 (rJ (gZ (neg,l)))) w:=by
 refine wid ?_;have hs:=hx.small;have g:=hx.len;have H:=Hd hx;have f:=LY (neg:=neg) g;obtain⟨W1,p⟩:=aC (w.alloc (.cells #[.bool neg,.slice A n c] 46));have b1:Below w w W1:=by rw[<-p];exact bel
 have E:W1.cell? ⟨w,0,none⟩=some (.bool neg):=by rw[<-p];simp[go_sem]
 have G:W1.cell? ⟨w,1,none⟩=some (.slice A n c):=by rw[<-p];simp[go_sem]
 have h:=Hd b1;have j:=Hd (hx.keep (a_ b1 M));generalize gZ (neg,l)=z at*
 clear b1 hx;by_cases I:2048<n
 ·have i:z=false:=by rw[f,cE (show ¬n<=2048 by omega)];rfl
  subst i;clear f g;exact EO
 ·rw[cw (show n<=2048 by omega),ff]at f;rcases eh n with R|R
  ·subst R;have D:l= []:=c_.1 g;subst D;have i:z= !neg:=by rw[f];simp
   subst i;clear f g;cases neg
   ·refine ent func137 rfl ntmps137 ?_;gi_wp2_with (first|(refine Cl 128 (lK A _ c [] _ j.out) ?_;rintro e C ⟨rfl,rfl⟩)|(refine⟨bq,?_⟩))
    go_ret;exact⟨rfl,h.out⟩
   exact EO
  obtain⟨b,o,x,rfl,J,-,-,s⟩:=j.out.pR (show n-1<n by omega);have r:l.getLast?=some x:=by rw[ki,g];exact s
  rw[r,cE (show ¬n=0 by omega)]at f;simp only[mR,Bool.not_false,ff,Option.all_some]at f;have N:IntKind.i64.wrap ((n:Int)-1)=((n-1:Nat):Int):=by rw[bR];omega
  have L:n-1<n:=oE;by_cases u:x=0
  ·subst u;have i:z=false:=by rw[f];rfl
   subst i;clear f g r s;exact EO
  have K:(x==0)=false:=by simpa using u
  rw[show(x !=0)=true by simpa using u,ff]at f;obtain⟨q,t⟩:=aC (l.any nI);have Z:=Hd t;rw[t]at f;subst f;clear g r s t;cases q;·exact EM
  exact EM
theorem fZ(A:Option Addr)(n c:Nat)(neg:Bool)(l:List Int)(w:World)(hx:Sl Int w M A n c l):
 CB 112 #[.agg #[.bool neg,.slice A n c]] (.int .i64 (rJ (gZ (neg,l)))) w:=by
 refine wid ?_;have hs:=hx.small;have f:=hx.len;have H:=Hd hx;have e:=LY (neg:=neg) f;obtain⟨W1,s⟩:=aC (w.alloc (.cells #[.bool neg,.slice A n c] 46));have b1:Below w w W1:=by rw[<-s];exact bel
 have O:W1.cell? ⟨w,0,none⟩=some (.bool neg):=by rw[<-s];simp[go_sem]
 have S:W1.cell? ⟨w,1,none⟩=some (.slice A n c):=by rw[<-s];simp[go_sem]
 have g:=Hd b1;have D:=Hd (hx.keep (a_ b1 M));have HL:=Hd f;generalize gZ (neg,l)=z at*
 clear b1 hx;by_cases T:2048<n
 ·have r:z=false:=by rw[e,cE (show ¬n<=2048 by omega)];rfl
  subst r;clear e f;exact I7
 ·rw[cw (show n<=2048 by omega),ff]at e;rcases eh n with R|R
  ·subst R;have J:l= []:=c_.1 f;subst J;have r:z= !neg:=by rw[e];simp
   subst r;clear e f;cases neg
   ·refine ent func112 rfl ntmps112 ?_;gi_wp2;gi_loop[4] (fun i=>i=.int .i64 0) (fun _=>0);case atStart=>rfl
    case round=>subst hrel;gi_wp2;go_ret;exact⟨rfl,g.out⟩
   exact I7
  obtain⟨b,o,x,rfl,U,-,-,u⟩:=D.out.pR (show n-1<n by omega);have t:l.getLast?=some x:=by rw[ki,f];exact u
  rw[t,cE (show ¬n=0 by omega)]at e;simp only[mR,Bool.not_false,ff,Option.all_some]at e;have kw:IntKind.i64.wrap ((n:Int)-1)=((n-1:Nat):Int):=by rw[bR];omega
  have kj:n-1<n:=oE;by_cases C:x=0
  ·subst C;have r:z=false:=by rw[e];rfl
   subst r;clear e f t u;exact I7
  have Y:(x==0)=false:=by simpa using C
  rw[show(x !=0)=true by simpa using C,ff]at e;have HZ:=Hd e;clear f t u e;refine ent func112 rfl ntmps112 ?_;gi_wp2;gi_loop[4] (fun i=>∃k:Nat,k<=n/\i=.int .i64 k/\Hid ((l.drop k).any nI=l.any nI)) (fun i=>n-(intOf i).toNat);case atStart=>exact⟨0,bO _,rfl,rfl⟩
  case round=>
   obtain⟨k,X,rfl,G⟩:=hrel;by_cases K:k<n
   ·obtain⟨N,o',y,I,V,-,E,-⟩:=D.out.pR K;cases I;have h:=G.out;rw[E,gP]at h;have p:=Hd h;clear h E;by_cases L:y<0;·have j:=Hd (show nI y=true by simp[nI,L]);exact Y1
    by_cases Z:1073741824<=y;·have j:=Hd (show nI y=true by simp[nI];omega);exact Y1
    have j:=Hd (show nI y=false by simp[nI];omega);gi_wp2;go_round;case rel=>exact⟨k+1,oE,by go_num,by have:=p.out;rwa [j.out,jn]at this⟩
    case measure=>simp[intOf];omega
   ·have h:=G.out;rw[cA (by rw[HL.out];omega)]at h;have p:=Hd h;clear h;gi_wp2;go_ret;exact⟨by rw[HZ.out,<-p.out];rfl,g.out⟩
theorem Sl.LZ{n:Nat}{xs:List lG}(h:Sl lG w M A n c xs){l:List Int}(hk:xs[k]?=some (neg,l)):
 ∃b o A' n' c',A=some ⟨b,o,none⟩/\w.cell? ⟨b,o+k*2,none⟩=some (.bool neg)/\w.cell? ⟨b,o+k*2+1,none⟩=some (.slice A' n' c')/\Sl Int w M A' n' c' l:=by
 obtain⟨b,o,i,rfl,g,e⟩:=h.get hk;obtain⟨f,j,rfl,r,A',n',c',rfl,D⟩:=g;have r:f= [.bool neg]:=r;subst r;refine⟨b,o,A',n',c',rfl,?_,?_,D⟩;·have:=e.2 0 (.bool neg) rfl;exact this
 ·have:=e.2 1 (.slice A' n' c') rfl;exact this
theorem iR(A:Option Addr)(n c:Nat)(zs:List Int)(w:World)(hx:Sl lG w M A n c (zs.map jk))(hz:∀z,z∈zs->fits z=true):
 CB 97 #[.slice A n c] (.tuple #[]) w:=by
 refine wid ?_;have hs:=hx.small;have g:zs.length=n:=by have:=hx.len;simpa using this
 have H:=Hd hx;have HZ:=Hd hz;have HL:=Hd g;clear hx hz g;refine ent func97 rfl ntmps97 ?_;gi_wp2;gi_loopw[7] (fun i wr=>∃k:Nat,k<=n/\i=.int .i64 k/\Below w w wr) (fun i _=>n-(intOf i).toNat);case atStart=>exact⟨0,bO _,rfl,bw _ _⟩
 case round=>
  obtain⟨k,D,rfl,hb⟩:=hrel;by_cases t:k<n
  ·obtain⟨z,hz⟩:=dW zs k (by rw[HL.out];exact t);obtain⟨b,o,h,n',r,rfl,x,C,X⟩:=(H.out.keep (a_ hb M)).LZ (k:=k) (neg:=aG z) (l:=ints (bG z)) (by rw[cP,hz];rfl);have hok:=j_ z (HZ.out z (aR hz));have S:=Hd X;have p:=Hd (show rJ (gZ (aG z,ints (bG z)))=0 by rw[show(aG z,ints (bG z))=jk z from rfl,hok];rfl);clear X hok hz;gi_wp2_with (refine Cl 137 (eF h n' r (aG z) (ints (bG z)) _ (S.out.go (by exact bel))) ?_;rintro e u ⟨rfl,f⟩;rw[p.out];have j:=Hd f;clear f)
   have s:Below w w u:=(hb.alloc hb.size _).trans (j.out.mono (by simp;have:=hb.size;omega));exact⟨⟨k+1,oE,by go_num,s⟩,by simp[intOf];omega⟩
  ·gi_wp2;go_end0;exact⟨rfl,hb⟩
abbrev Tj(x:Int):Value:=.iface 32 (.int .i64 x)
theorem Ee(x:Int)(w:World):(Instr.typeAssert (Tj x) 20 32 true).run prog w=.ok (.tuple #[.int .i64 x,.bool true]) w:=oF
theorem Ef{n:Nat}(p:Addr)(x y:Int)(older:List PanicEntry)(w:World)(hc:w.cell? p=some (.int .i64 y))(hf:w.frozen? p=false):
 CallsDIn Fence.wide n prog 96 #[.pointer (some p)] (.panicking ({ v:=Tj x,recovered:=false }::older)) w fun e u' w'=>e=.returned (.tuple #[])/\u'=.panicking ({ v:=Tj x,recovered:=true }::older)/\w'=w.setCell p (.int .i64 x):=by
 refine callsDIn_of_wpSIn func96 rfl trivial fun c₀ cs hu=>?_;apply wpSIn_seq;apply wpSIn_region;simp[wpOpsSIn,go_sem,recoverD,hu,ntmps96,Exit.thenS];refine wpSIn_of_wpIn rfl ?_;refine mU (Q:=fun e f w'=>e=.normal/\f.defers= []/\w'=w.setCell p (.int .i64 x)) ?_ ?_;rotate_left;·rintro e f w' ⟨rfl,g,rfl⟩;simp[bodyPostS,results,results96,g]
 clear hu;have h:=Ee x;simp only[gH,gL,iG,fk,de,dx,eE,fl,eQ];gi_wp2
theorem iJ{n:Nat}(p:Addr)(w:World):
 CallsDIn Fence.wide n prog 96 #[.pointer (some p)] .returning w fun e u' w'=>e=.returned (.tuple #[])/\u'=.returning/\w'=w:=by
 refine callsDIn_of_wpSIn func96 rfl trivial fun c₀ cs hu=>?_;apply wpSIn_seq;apply wpSIn_region;simp[wpOpsSIn,go_sem,recoverD,hu,ntmps96,Exit.thenS];refine wpSIn_of_wpIn rfl ?_;refine mU (Q:=fun e f w'=>e=.normal/\f.defers= []/\w'=w) ?_ ?_;rotate_left;·rintro e f w' ⟨rfl,g,rfl⟩;cases c₀;simp_all[bodyPostS,results,results96,g]
 clear hu;simp only[gH,gL,iG,fk,de,dx,eE,fl,eQ];gi_wp2
theorem yD:fits (gJ neg v)=decide ((bC v).length<=2048):=by unfold fits;rw[yw]
theorem ZV.less{w:World}{M M':List Nat}{v:Value}{z:Int}(h:ZV w M v z)(hs:∀k,k∈M'->k∈M):ZV w M' v z:=by obtain⟨A,n,c,rfl,h⟩:=h;exact⟨A,n,c,rfl,h.less hs⟩
theorem ZV.BJ{wr w2:World}{O:Option Addr}{cO q:Nat}(hs:Sl Int wr M O k cO (ints l))(hq:q<=k)(ht:l.take q=bC (val l))(hv:val l=v)(hb2:Keeps M wr w2):
 ZV w2 M (.agg #[.bool (neg&&decide (0<q)),.slice O q cO]) (gJ neg v):=by
 have h:=(hs.keep hb2).nY hq;rw[eG,ht,hv]at h;have e:=h.len;rw[jm]at e;refine⟨O,q,cO,?_,?_⟩;·rw[Le,e]
 ·rw[yw];exact h
theorem Wv{n:Nat}(hM:b_ M w)(hx:Sl Int w M A n c (ints l))(hg:Good l)(hv:val l=v)(hf:fits (gJ neg v)=true):
 Calls prog 140 #[.bool neg,.slice A n c] w fun e w'=>∃u,e=.returned u/\ZV w' M u (gJ neg v)/\Below w w w':=by
 refine wid ?_;have hs:=hx.small;obtain⟨W1,s⟩:=aC (w.alloc (.cells #[.bool false,.slice none 0 0] 46));have b1:Below w w W1:=by rw[<-s];exact bel
 have t:W1.heap.size=w.heap.size+1:=by rw[<-s];simp
 have j:W1.cell? ⟨w,0,none⟩=some (.bool false):=by rw[<-s];simp[go_sem]
 have C:W1.cell? ⟨w,1,none⟩=some (.slice none 0 0):=by rw[<-s];simp[go_sem]
 have f0:W1.frozen? ⟨w,0,none⟩=false:=by rw[<-s];simp[go_sem]
 have f1:W1.frozen? ⟨w,1,none⟩=false:=by rw[<-s];simp[go_sem]
 rw[yD]at hf;have I:=cW hf;have S:=h_ ((hx.more (b:=w) pc).keep (a_ b1 _)) hg hv hM;have B:=Zw b1 t j C f0 f1;have HF:=Hd I;have HL:=Hd hx.eu;clear hx hg hv hM b1 t j C f0 f1 hf I;have fin:∀(g:World) (q:Nat),q<=n->l.take q=bC (val l)->Below W1 W1 g->∀(u:Value),ZV ((g.setCell ⟨w,0,none⟩ u).setCell ⟨w,1,none⟩ (.slice A q c)) M (.agg #[.bool (neg&&decide (0<q)),.slice A q c]) (gJ neg v)/\Below w w ((g.setCell ⟨w,0,none⟩ u).setCell ⟨w,1,none⟩ (.slice A q c)):=by intro g q r i f u;refine⟨(ZV.BJ S.a r i S.c ((a_ f _).trans (((cF _ _).setCell (p:=⟨w,0,none⟩) (.inl oO) _).setCell (p:=⟨w,1,none⟩) (.inl oO) _))).less (fun k L=>bz _ L),?_⟩;exact O6
 have H:=Hd fin;clear fin;cases neg
 ·refine sH func140 rfl ntmps140 ?_;gi_wp2_with (refine Cl 186 (jw A n c l _ S.a S.b) ?_;rintro e g ⟨q,rfl,r,i,f⟩;have N:q<=2048:=(by have h:=HF.out;rw[<-S.c,<-i,cI,HL.out]at h;omega);obtain⟨b1,t,j,C,f0,f1⟩:=B.out;have D:g.cell? ⟨w,0,none⟩=some (.bool false):=(f.cell (p:=⟨w,0,none⟩) oS).trans j;have E:g.cell? ⟨w,1,none⟩=some (.slice none 0 0):=(f.cell (p:=⟨w,1,none⟩) oS).trans C;have J:g.frozen? ⟨w,0,none⟩=false:=(f.frozen (p:=⟨w,0,none⟩) oS).trans f0;have K:g.frozen? ⟨w,1,none⟩=false:=(f.frozen (p:=⟨w,1,none⟩) oS).trans f1;have o:=fB i r f;clear i r f b1 t j C f0 f1)
  obtain⟨x,G⟩:=H.out g q o.b o.a o.v (.bool false);rw[mR]at x;exact⟨.agg #[.bool false,.slice A q c],by simp[results,go_sem,D,E],_,rfl,x,G⟩
 ·refine sH func140 rfl ntmps140 ?_;gi_wp2_with (refine Cl 186 (jw A n c l _ S.a S.b) ?_;rintro e g ⟨q,rfl,r,i,f⟩;have N:q<=2048:=(by have h:=HF.out;rw[<-S.c,<-i,cI,HL.out]at h;omega);obtain⟨b1,t,j,C,f0,f1⟩:=B.out;have D:g.cell? ⟨w,0,none⟩=some (.bool false):=(f.cell (p:=⟨w,0,none⟩) oS).trans j;have E:g.cell? ⟨w,1,none⟩=some (.slice none 0 0):=(f.cell (p:=⟨w,1,none⟩) oS).trans C;have J:g.frozen? ⟨w,0,none⟩=false:=(f.frozen (p:=⟨w,0,none⟩) oS).trans f0;have K:g.frozen? ⟨w,1,none⟩=false:=(f.frozen (p:=⟨w,1,none⟩) oS).trans f1;have o:=fB i r f;clear i r f b1 t j C f0 f1)
  obtain⟨x,G⟩:=H.out g q o.b o.a o.v (.bool (decide (0<q)));rw[ff]at x;exact⟨.agg #[.bool (decide (0<q)),.slice A q c],by simp[results,go_sem,D,E],_,rfl,x,G⟩
abbrev Wx(x:Int):Ending:=.panicked [{ v:=Tj x,recovered:=false }]
theorem QE{n:Nat}(hx:Sl Int w M A n c (ints l))(hg:Good l)(hv:val l=v)(hf:fits (gJ neg v)=false):
 Calls prog 140 #[.bool neg,.slice A n c] w fun e w'=>e=Wx 2/\Below w w w':=by
 refine wid ?_;have hs:=hx.small;rw[yD]at hf;have g:=fW hf;have S:=fB hx hg hv;have HF:=Hd g;have HL:=Hd hx.eu;clear hx hg hv hf g;refine sH func140 rfl ntmps140 ?_;gi_wp2_with (refine Cl 186 (jw A n c l _ (S.a.go (by exact bel)) S.b) ?_;rintro e o ⟨q,rfl,j,i,f⟩;have p:2048<q:=(by have h:=HF.out;rw[<-S.v,<-i,cI,HL.out]at h;omega);have HB:=Hd f;clear i j f)
 have hb:Below w w o:=((bw w w).alloc pc (.cells #[.bool false,.slice none 0 0] 46)).trans (HB.out.mono oO)
 first
  |exact⟨rfl,hb⟩
  |exact⟨rfl,rfl,hb⟩
  |exact⟨rfl,.inl ⟨rfl,hb⟩⟩
def Wy(z:Int):Int:=if fits z then 0 else 2
def WA(z:Int):Int:=if fits z then z else 0
theorem nJ(h:fits z=true):Wy z=0:=by simp[Wy,h]
theorem Jw(h:fits z=false):Wy z=2:=by simp[Wy,h]
theorem nK(h:fits z=true):WA z=z:=by simp[WA,h]
theorem Jy(h:fits z=false):WA z=0:=by simp[WA,h]
def ZR(w:World)(M:List Nat)(z:Int)(e:Ending)(w':World):Prop:=∃u,e=.returned (.tuple #[u,.int .i64 (Wy z)])/\ZV w' M u (WA z)/\Below w w w'
theorem agB{n:Nat}(hM:b_ M w)(hx:Sl Int w M A n c (ints l))(hg:Good l)(hv:val l=v):
 Calls prog 158 #[.bool neg,.slice A n c] w (ZR w M (gJ neg v)):=by
 refine wid ?_;have hs:=hx.small;obtain⟨W1,x⟩:=aC (w.alloc (.cells #[.bool false,.slice none 0 0] 46));have b1:Below w w W1:=by rw[<-x];exact bel
 have t:W1.heap.size=w.heap.size+1:=by rw[<-x];simp
 have j:W1.cell? ⟨w,0,none⟩=some (.bool false):=by rw[<-x];simp[go_sem]
 have C:W1.cell? ⟨w,1,none⟩=some (.slice none 0 0):=by rw[<-x];simp[go_sem]
 have f0:W1.frozen? ⟨w,0,none⟩=false:=by rw[<-x];simp[go_sem]
 have f1:W1.frozen? ⟨w,1,none⟩=false:=by rw[<-x];simp[go_sem]
 have S:=h_ ((hx.more (b:=w) pc).keep (a_ b1 _)) hg hv hM;have B:=Zw b1 t j C f0 f1;have HL:=Hd hx.eu;clear hx hg hv hM b1 t j C f0 f1;have fin:∀(g:World) (q:Nat),q<=n->l.take q=bC (val l)->Below W1 W1 g->∀(u:Value),ZV ((g.setCell ⟨w,0,none⟩ u).setCell ⟨w,1,none⟩ (.slice A q c)) M (.agg #[.bool (neg&&decide (0<q)),.slice A q c]) (gJ neg v)/\Below w w ((g.setCell ⟨w,0,none⟩ u).setCell ⟨w,1,none⟩ (.slice A q c)):=by intro g q r i f u;refine⟨(ZV.BJ S.a r i S.c ((a_ f _).trans (((cF _ _).setCell (p:=⟨w,0,none⟩) (.inl oO) _).setCell (p:=⟨w,1,none⟩) (.inl oO) _))).less (fun k N=>bz _ N),?_⟩;exact O6
 have I:=Hd fin;clear fin;cases o:fits (gJ neg v)
 ·have Z:=Hd2 (Jw o) (Jy o);rw[yD]at o;have HF:=Hd (fW o);clear o;refine sH func158 rfl ntmps158 ?_;gi_wp2_with (refine Cl 192 (jy A n c l _ S.a S.b) ?_;rintro e g ⟨q,rfl,r,i,f⟩;have L:2048<q:=(by have h:=HF.out;rw[<-S.c,<-i,cI,HL.out]at h;omega);obtain⟨b1,t,j,C,f0,f1⟩:=B.out;have D:g.cell? ⟨w,0,none⟩=some (.bool false):=(f.cell (p:=⟨w,0,none⟩) oS).trans j;have E:g.cell? ⟨w,1,none⟩=some (.slice none 0 0):=(f.cell (p:=⟨w,1,none⟩) oS).trans C;have J:g.frozen? ⟨w,0,none⟩=false:=(f.frozen (p:=⟨w,0,none⟩) oS).trans f0;have K:g.frozen? ⟨w,1,none⟩=false:=(f.frozen (p:=⟨w,1,none⟩) oS).trans f1;have s:=fB i r f;clear i r f b1 t j C f0 f1)
  refine⟨.tuple #[.agg #[.bool false,.slice none 0 0],.int .i64 2],by simp[results,go_sem,D,E],.agg #[.bool false,.slice none 0 0],by rw[Z.a],?_,?_⟩;·rw[Z.u];exact ZV.zero _ _
  exact((B.a.trans (s.v.mono (by rw[B.b];omega))).setCell (p:=⟨w,0,none⟩) pc _).setCell (p:=⟨w,1,none⟩) pc _
 ·have Z:=Hd2 (nJ o) (nK o);rw[yD]at o;have HF:=Hd (cW o);clear o;cases neg
  ·refine sH func158 rfl ntmps158 ?_;gi_wp2_with (refine Cl 192 (jy A n c l _ S.a S.b) ?_;rintro e g ⟨q,rfl,r,i,f⟩;have L:q<=2048:=(by have h:=HF.out;rw[<-S.c,<-i,cI,HL.out]at h;omega);obtain⟨b1,t,j,C,f0,f1⟩:=B.out;have D:g.cell? ⟨w,0,none⟩=some (.bool false):=(f.cell (p:=⟨w,0,none⟩) oS).trans j;have E:g.cell? ⟨w,1,none⟩=some (.slice none 0 0):=(f.cell (p:=⟨w,1,none⟩) oS).trans C;have J:g.frozen? ⟨w,0,none⟩=false:=(f.frozen (p:=⟨w,0,none⟩) oS).trans f0;have K:g.frozen? ⟨w,1,none⟩=false:=(f.frozen (p:=⟨w,1,none⟩) oS).trans f1;have s:=fB i r f;clear i r f b1 t j C f0 f1)
   obtain⟨G,H⟩:=I.out g q s.b s.a s.v (.bool false);rw[mR]at G;refine⟨.tuple #[.agg #[.bool false,.slice A q c],.int .i64 0],by simp[results,go_sem,D,E],.agg #[.bool false,.slice A q c],by rw[Z.a],by rw[Z.u];exact G,H⟩
  refine sH func158 rfl ntmps158 ?_;gi_wp2_with (refine Cl 192 (jy A n c l _ S.a S.b) ?_;rintro e g ⟨q,rfl,r,i,f⟩;have L:q<=2048:=(by have h:=HF.out;rw[<-S.c,<-i,cI,HL.out]at h;omega);obtain⟨b1,t,j,C,f0,f1⟩:=B.out;have D:g.cell? ⟨w,0,none⟩=some (.bool false):=(f.cell (p:=⟨w,0,none⟩) oS).trans j;have E:g.cell? ⟨w,1,none⟩=some (.slice none 0 0):=(f.cell (p:=⟨w,1,none⟩) oS).trans C;have J:g.frozen? ⟨w,0,none⟩=false:=(f.frozen (p:=⟨w,0,none⟩) oS).trans f0;have K:g.frozen? ⟨w,1,none⟩=false:=(f.frozen (p:=⟨w,1,none⟩) oS).trans f1;have s:=fB i r f;clear i r f b1 t j C f0 f1)
  obtain⟨G,H⟩:=I.out g q s.b s.a s.v (.bool (decide (0<q)));rw[ff]at G;refine⟨.tuple #[.agg #[.bool (decide (0<q)),.slice A q c],.int .i64 0],by simp[results,go_sem,D,E],.agg #[.bool (decide (0<q)),.slice A q c],by rw[Z.a],by rw[Z.u];exact G,H⟩
def DR2(w:World)(M:List Nat)(x y:Nat)(e:Ending)(w':World):Prop:=∃O q cO O2 q2 Z7,e=.returned (.tuple #[.slice O q cO,.slice O2 q2 Z7])/\Sl Int w' M O q cO (ints (bC x))/\Sl Int w' M O2 q2 Z7 (ints (bC y))/\Below w w w'
theorem YK(h:(bC y).length=1):bC y= [y]/\0<y/\y<=1073741823:=by
 have R:y≠0:=by intro e;rw[e,bU]at h;simp at h
 have f:y<BB^1:=(lY y 1).2 oE;rw[Nat.pow_one]at f;refine⟨?_,oE,g_ f⟩;rw[iP R,nq f,nt f,bU]
theorem L8{n x:Nat}(hM:b_ M w)(hx:Sl Int w M A n c (ints (bC x)))(hy:Sl Int w M B m d (ints (bC y)))(hn:n<=4990)(hy0:0<y):
 Calls prog 185 #[.slice A n c,.slice B m d] w (DR2 w M (x/y) (x%y)):=by
 refine wid ?_;have t:=hx.eu;have j:=hy.eu;have o:=hy.small;have H:=Hd hx;have G:=Hd hy;have HM:=Hd hM;by_cases s:x<y
 ·have hc:=Hd (pI s);have hq:=Hd2 (nt s) (nq s);clear hx hy hM t j;refine ent func185 rfl ntmps185 ?_;gi_wp2_with (refine Cl 98 (jo A B n c m d x y _ H.out G.out) ?_;rintro e R ⟨rfl,hb⟩;rw[hc.out];have HB:=Hd hb;clear hb)
  go_ret2;rw[hq.a,hq.u];exact⟨none,0,0,A,n,c,rfl,by rw[bU];exact Sl.nil0,H.out.go HB.out,HB.out⟩
 ·have ae:m<=n:=by rw[<-t,<-j];exact kR (mi s)
  have K:qK x y=0\/qK x y=1:=by
   rcases lh y x with h|h;·exact .inr (pJ h)
   exact .inl (uM oE)
  obtain⟨cz,E⟩:=aC (qK x y);rw[E]at K;have S:=Hd E;clear E;have hcn:¬cz<0:=oE;have ai:m≠0:=by intro e;rw[e]at j;have:=jO.1 (c_.1 j);omega
  by_cases ad:m=1
  ·subst ad;obtain⟨U,V,d3⟩:=YK j;obtain⟨b0,o0,dt,rfl,J,ah,L,-⟩:=hy.mG (aO y) (show 0<1 by omega);rw[U]at L;obtain rfl:y=dt:=by simpa using L
   rw[ed]at J;have aj:=jN x V;clear hx hy hM t j U L K;refine ent func185 rfl ntmps185 ?_
   gi_wp2_with (first
    |(refine Cl 186 (jw (M:=M) _ _ _ [x%y] _ D.a D.u) ?_;rintro e w3 ⟨q3,rfl,aa,ac,Y⟩;have r:=fB aa ac Y;clear aa ac Y)
    |(refine Cl 227 (short_any (x:=x) (d:=y) (HM.out.le f.out.size) (H.out.go f.out) oE V oE) ?_;rintro e g ⟨C,N,I,rfl,o,p⟩;have i:=Hd2 o p;clear o p;have D:Hid (Sl Int (g.alloc (.cells #[.int .i64 ((x%y:Nat):Int)] 3)) M (some ⟨g,0,none⟩) 1 1 (ints [x%y])/\Good [x%y]):=by have Z:Good [x%y]:=nT (Hy oE) tu;have hr:Row (g.alloc (.cells #[.int .i64 ((x%y:Nat):Int)] 3)) g.heap.size (ints [x%y]):=gl g _;exact⟨hr.sl (fun e=>by have:=HM.out _ e;have:=f.out.size;have:=i.u.size;omega) rfl oE (fU Z),Z⟩)
    |(refine Cl 98 (jo A _ n c 1 d x y _ H.out G.out) ?_;rintro e R ⟨rfl,hb⟩;rw[S.out];have f:=Hd hb;clear hb;have ag:R.cell? ⟨b0,o0,none⟩=some (.int .i64 (y:Int)):=(f.out.cell (bu w _ J)).trans J)
    |fail)
   have af:val [x%y]=x%y:=by simp[val]
   have X:=(D.a.go r.v).nY r.a;rw[eG,r.b,af]at X;have T:Below g g w3:=((bw g g).alloc pc (.cells #[.int .i64 ((x%y:Nat):Int)] 3)).trans (r.v.mono oO);go_ret2;exact⟨C,N,I,_,q3,1,rfl,i.a.go T,X,f.out.trans ((i.u.trans (T.mono i.u.size)).mono f.out.size)⟩
  clear hx hy hM t j K;refine ent func185 rfl ntmps185 ?_
  gi_wp2_with (first
   |(refine Cl 228 (Wp (x:=x) (y:=y) (HM.out.le f.out.size) (H.out.go f.out) (G.out.go f.out) hn oE ae) ?_;rintro e g ⟨O,q,cO,C,N,I,rfl,ab,o,p⟩;have i:=fB ab o (f.out.trans (p.mono f.out.size));clear ab o p)
   |(refine Cl 98 (jo A B n c m d x y _ H.out G.out) ?_;rintro e R ⟨rfl,hb⟩;rw[S.out];have f:=Hd hb;clear hb)
   |fail)
  go_ret2;exact⟨O,q,cO,C,N,I,rfl,i.a,i.b,i.v⟩
end
section
variable {F:Fence}{n:Nat}{P:Program}{Mr:List Nat}{md:Region.Mode}{ops:Array Oper}{Q Q':Exit→Act→World→Prop}
theorem Jz{i:Nat}{K:Act->World->Prop}{a:Act}(hq:∀e a w,Q e a w->Q' e a w)(hh:wpOpIn F n P ops Q i K a w):wpOpIn F n P ops Q' i K a w:=by
 have g:LetsOut Q->LetsOut Q':=fun⟨a,w,h⟩=>⟨a,w,hq _ _ _ h⟩;unfold wpOpIn at*
 split;·simpa[*]using hh
 rename_i o ho;simp only[ho]at hh;split
 ·rename_i hw;simp only[hw,lL]at hh;unfold Oper.wpIn at*;refine⟨hh.1,?_⟩;have hh:=hh.2;generalize (o.semAt F.round a.eval).run P w=r at*
  cases r with
  |ok x w'=>
   cases x<;>simp only[Oper.uponIn]at hh |- <;>first
    |exact hh
    |exact⟨hh.1,CallsIn.mono hh.2 (fun e j f=>by cases e<;>first|exact f|exact hq _ _ _ f|exact g f)⟩
    |exact⟨hh.1,RoundIn.mono hh.2 (fun e j f=>by cases e<;>first|exact f|exact hq _ _ _ f|exact g f)⟩
  |halt x w'=>cases x<;>simp only[Oper.uponIn]at hh |- <;>first|exact hh|exact hq _ _ _ hh
 rename_i hw;simp only[hw]at hh;exact hh
theorem yE{n0:Nat}{L:Array Bool->Act->World->Prop}(hq:∀e a w,Q e a w->Q' e a w):∀(f:Nat) (listed:Array Bool) (a:Act) (w:World),jQ F n P Mr md ops Q n0 L f listed a w->jQ F n P Mr md ops Q' n0 L f listed a w
 |0,listed,a,w,h=>h
 |f+1,listed,a,w,h=>⟨h.1,fun i hi=>⟨(h.2 i hi).1,Jz hq (wpOpIn_mono (fun a' w' h'=>⟨h'.1,yE hq f _ a' w' h'.2⟩) (h.2 i hi).2)⟩⟩
theorem WB{Q:Exit->Act->World->Prop}:∀e a w,cu Q e a w->Q e a w:=fun e a w h=>by cases e<;>first|exact h|exact h.elim
theorem iF(Mr:List Nat){id:Nat}{a:Act}(n0 g:Nat)(ord:List Nat)(hm:P.follows .mixedOrders=true)(hok:FM ops n0 ord=true)(hg:ops.size-n0=g)
 (h:jH F n P Mr ops (cu Q) (fun a' w'=>wpOpsIn F n P ops Q (List.range' n0 g) a' w') ord a w.drew):(Code.region id ops true).wpIn F n P Q a w:=by
 subst hg;simp only[FM,cJ,du]at hok;obtain⟨⟨⟨⟨⟨⟨i,o⟩,h3⟩,h4⟩,h5⟩,h6⟩,h7⟩:=hok;have r:HeadInv .any ops n0 (Array.replicate ops.size false):=⟨oO,fun j s _ e=>(by rw[getD_replicate_false]at e;cases e),fun t _ S=>by simp[S]⟩;have f:=lQ (F:=F) (n:=n) (P:=P) (md:=.any) (Q:=cu Q) i o (fun d v c a w h=>BU d v c a w h) h3 ord _ a _ r h4 h;rw[h5]at f;refine wpIn_region_any hm ?_;have:=iK (g:=ops.size-n0) (fun l a w e=>by obtain⟨rfl,p⟩:=e;exact iT _ _ _ a w h7 p) _ _ _ _ (yE WB _ _ _ _ f)
 rwa [show n0+(ops.size-n0)=ops.size by omega]at this
end
section
attribute [local go_sem] cK
structure F4(w W:World)(na nb:Bool)(va vb:Value):Prop where
 a0:W.cell? ⟨w,0,none⟩=some (.bool na)
 a1:W.cell? ⟨w,1,none⟩=some va
 b0:W.cell? ⟨w+1,0,none⟩=some (.bool nb)
 b1:W.cell? ⟨w+1,1,none⟩=some vb
 x0:W.cell? ⟨w+1+1,0,none⟩=some (.bool false)
 x1:W.cell? ⟨w+1+1,1,none⟩=some (.slice none 0 0)
 e0:W.cell? ⟨w+1+1+1,0,none⟩=some (.int .i64 0)
 f0:W.frozen? ⟨w+1+1,0,none⟩=false
 f1:W.frozen? ⟨w+1+1,1,none⟩=false
 fe:W.frozen? ⟨w+1+1+1,0,none⟩=false
 bl:Below w w W
 sz:w.heap.size+4<=W.heap.size
theorem F4.go(h:F4 w W na nb va vb)(hb:Below W W W'):F4 w W' na nb va vb:=by have hs:=h.sz;have c:∀(k o:Nat) (u:Value),k<w.heap.size+4->W.cell? ⟨k,o,none⟩=some u->W'.cell? ⟨k,o,none⟩=some u:=fun k o u g e=>(hb.cell (p:=⟨k,o,none⟩) (show k<_ by omega)).trans e;have f:∀(k o:Nat),k<w.heap.size+4->W.frozen? ⟨k,o,none⟩=false->W'.frozen? ⟨k,o,none⟩=false:=fun k o g e=>(hb.frozen (p:=⟨k,o,none⟩) (show k<_ by omega)).trans e;exact⟨c _ _ _ oE h.a0,c _ _ _ oE h.a1,c _ _ _ oE h.b0,c _ _ _ oE h.b1,c _ _ _ oE h.x0,c _ _ _ oE h.x1,c _ _ _ oE h.e0,f _ _ oE h.f0,f _ _ oE h.f1,f _ _ oE h.fe,h.bl.trans (hb.mono h.bl.size),by have:=hb.size;omega⟩
theorem F4.start(w:World)(na nb:Bool)(va vb:Value)(ha:va.cells=#[va])(hb:vb.cells=#[vb]):
 F4 w ((((w.alloc (.cells #[.bool na,va] 46)).alloc (.cells #[.bool nb,vb] 46)).alloc (.cells #[.bool false,.slice none 0 0] 46)).alloc (.cells #[.int .i64 0] 32)) na nb va vb:=by
 refine⟨oX,oX,oX,oX,oX,oX,oX,oX,oX,oX,by exact bel,oO⟩
theorem Sl.QF(hM:b_ M w){n:Nat}{la lb:List Int}(h1:Sl Int w M A n c la)(h2:Sl Int w M B m d lb):
 Sl lG (w.alloc (.cells #[.bool na,.slice A n c,.bool nb,.slice B m d] 46)) M (some ⟨w,0,none⟩) 2 2 [(na,la),(nb,lb)]:=by
 have hb:Below w w (w.alloc (.cells #[.bool na,.slice A n c,.bool nb,.slice B m d] 46)):=by exact bel
 have h:w.heap.size∉M:=fun e=>by have:=hM _ e;omega
 refine⟨rfl,bh _,by simp[jG],oE,.inr ⟨w,0,rfl,fun k x g=>?_⟩⟩
 match k,g with
 |0,g=>cases g;exact⟨[.bool na,.slice A n c],⟨[.bool na], [.slice A n c],rfl,rfl,A,n,c,rfl,h1.keep (a_ hb M)⟩,h,fun j u f=>by
   match j,f with
   |0,f=>cases f;simp[go_sem]
   |1,f=>cases f;simp[go_sem]⟩
 |1,g=>cases g;exact⟨[.bool nb,.slice B m d],⟨[.bool nb], [.slice B m d],rfl,rfl,B,m,d,rfl,h2.keep (a_ hb M)⟩,h,fun j u f=>by
   match j,f with
   |0,f=>cases f;simp[go_sem,show Rep.sz lG=2 from rfl]
   |1,f=>cases f;simp[go_sem,show Rep.sz lG=2 from rfl]⟩
theorem WC(hM:b_ M w)(ha:ZV w M va a)(hb:ZV w M vb b)(fa:fits a=true)(fb:fits b=true):
 Calls prog 95 #[va,vb] w (ZR w M (a*b)):=by
 refine wid ?_;obtain⟨A,n,c,rfl,hx⟩:=ha;obtain⟨B,m,d,rfl,hy⟩:=hb;have hn:n<=2048:=by have h:=cW fa;rw[hx.eu]at h;exact h
 have hm:m<=2048:=by have h:=cW fb;rw[hy.eu]at h;exact h
 obtain⟨na,J⟩:=aC (aG a);obtain⟨nb,L⟩:=aC (aG b);have U:gJ (na !=nb) (a.natAbs*b.natAbs)=a*b:=by rw[<-J,<-L];exact Yy a b
 rw[J,L];obtain⟨W1,af⟩:=aC ((((w.alloc (.cells #[.bool na,.slice A n c] 46)).alloc (.cells #[.bool nb,.slice B m d] 46)).alloc (.cells #[.bool false,.slice none 0 0] 46)).alloc (.cells #[.int .i64 0] 32));have F1:F4 w W1 na nb (.slice A n c) (.slice B m d):=by rw[<-af];exact F4.start w na nb _ _ rfl rfl
 have aa:=((hx.more (b:=w+1+1+1) oE).more (b:=w+1+1) oE).keep (a_ F1.bl _);have ab:=((hy.more (b:=w+1+1+1) oE).more (b:=w+1+1) oE).keep (a_ F1.bl _);have T:b_ ((w.heap.size+1+1)::(w.heap.size+1+1+1)::M) W1:=fun k D=>by
  have:=F1.sz;simp only[cB]at D;rcases D with rfl|rfl|D;·omega
  ·omega
  have:=hM k D;omega
 have X:=fB aa ab T;have F:=Hd F1;have HZ:=Hd2 J L;have HF:=Hd2 fa fb;have e0:=F1.a0;have e1:=F1.a1;have e2:=F1.b0;have e3:=F1.b1;have SB:Sl lG (W1.alloc (.cells #[.bool na,.slice A n c,.bool nb,.slice B m d] 46)) ((w.heap.size+1+1)::(w.heap.size+1+1+1)::M) (some ⟨W1,0,none⟩) 2 2 ([a,b].map jk):=by
  have e: [a,b].map jk= [(na,ints (bG a)),(nb,ints (bG b))]:=by simp[jk,J,L]
  rw[e];exact Sl.QF T aa ab
 have yU:=Hd SB;clear hx hy hM aa ab T F1 J L fa fb SB;refine qj func95 rfl ntmps95 ?_;gi_wp2_with (refine Cl 97 (iR _ 2 2 [a,b] _ yU.out (by simp[HF.a,HF.u])) ?_;rintro e w2 ⟨rfl,ad⟩;have r:Below W1 W1 w2:=((bw W1 W1).alloc pc (.cells #[.bool na,.slice A n c,.bool nb,.slice B m d] 46)).trans (ad.mono oO);have s:=F.out.go r;have v0:=ah s.a0;have v1:=ah s.a1;have v2:=ah s.b0;have v3:=ah s.b1;have g:=Hd2 s r;clear ad r s)
 refine iF [] 10 3 [0,1,2,3,4,5,6,7,8,9] oF oF rfl ?_;refine eH ?_;refine aH fun K j=>aA rfl rfl wy fun t o=>?_;gi_wp2;refine Cm (Wh (x:=a.natAbs) (y:=b.natAbs) (X.v.le (w':=w2.drew) g.u.size) ((X.a.go g.u).keep (cF _ _).drew) ((X.b.go g.u).keep (cF _ _).drew) oE oE) ?_;rintro e w3 ⟨A3,n3,c3,rfl,ae,r⟩;have Y:=Hd2 ae r;clear ae;refine o _ _ ⟨?_,j _ _ ?_⟩;clear o t j K;·exact a_ r []
 refine lit ?_;clear r v0 v1 v2 v3;refine aK ?_;have F3:=(show F4 w w2.drew na nb (.slice A n c) (.slice B m d)from⟨g.a.a0,g.a.a1,g.a.b0,g.a.b1,g.a.x0,g.a.x1,g.a.e0,g.a.f0,g.a.f1,g.a.fe,g.a.bl.drew,g.a.sz⟩).go Y.u;have ac:=Hd F3;have C9:b_ ((w.heap.size+1+1)::(w.heap.size+1+1+1)::M) w3:=X.v.le (cD g.u.size Y.u.size);clear F3;cases C:fits (a*b);·have Z:=Hd2 (Jw C) (Jy C);refine uj fun K j=>?_;refine oP rfl ?_ (fun t o=>?_);(focus exact wy);gi_wp2;rw[show(!na==nb)=(na !=nb)from by cases na<;>cases nb<;>rfl];refine Cm (QE (v:=a.natAbs*b.natAbs) Y.a (aO _) (bI _) (by rw[U];exact C)) ?_;rintro e w4 ⟨rfl,hb4⟩;have i:=ac.out.go hb4;refine eM (f:=96) (args:=#[.pointer (some ⟨w+1+1+1,0,none⟩)]) oO oO oX (fun _ _=>bq) ?_;refine(Ef ⟨w+1+1+1,0,none⟩ 2 0 [] _ i.e0 i.fe).mono ?_;rintro e u' ag ⟨rfl,rfl,rfl⟩;have G:=i.x0;have H:=i.x1;have I:=i.e0;refine⟨.tuple #[.agg #[.bool false,.slice none 0 0],.int .i64 2],?_,.agg #[.bool false,.slice none 0 0],by rw[Z.a],by rw[Z.u];exact ZV.zero _ _,i.bl.setCell (p:=⟨w+1+1+1,0,none⟩) oS _⟩;simp[results,results95,go_sem,G,H,I]
 ·have Z:=Hd2 (nJ C) (nK C);refine uj fun K j=>?_;refine oP rfl ?_ (fun t o=>?_);(focus exact wy);gi_wp2;rw[show(!na==nb)=(na !=nb)from by cases na<;>cases nb<;>rfl];refine Cm (Wv (v:=a.natAbs*b.natAbs) C9 Y.a (aO _) (bI _) (by rw[U];exact C)) ?_;rintro e w4 ⟨u,rfl,⟨O,S,R,rfl,V⟩,hb4⟩;rw[U]at V |-;have i:=ac.out.go hb4;have H4:=Hd2 V i;have G:=i.x0;have H:=i.x1;have I:=i.e0;have d0:=i.f0;have d1:=i.f1;have d2:=i.fe;clear V i hb4;refine o _ _ (j _ _ ?_);clear o t j K;refine lit ?_;refine jW fun K j t o=>?_;gi_wp2;refine jW fun K j t o=>?_;gi_wp2;refine dC _ ?_;gi_wp2;obtain⟨N,E⟩:=aC (((w4.setCell ⟨w+1+1,0,none⟩ (.bool (aG (a*b)))).setCell ⟨w+1+1,1,none⟩ (.slice O S R)).setCell ⟨w+1+1+1,0,none⟩ (.int .i64 0));have kF:Keeps ((w.heap.size+1+1)::(w.heap.size+1+1+1)::M) w4 N:=by
   rw[<-E];exact(((cF _ _).setCell (p:=⟨w+1+1,0,none⟩) (.inl oO) _).setCell (p:=⟨w+1+1,1,none⟩) (.inl oO) _).setCell (p:=⟨w+1+1+1,0,none⟩) (.inl oO) _
  have bF:Below w w N:=by rw[<-E];exact((H4.u.bl.setCell (p:=⟨w+1+1,0,none⟩) oS _).setCell (p:=⟨w+1+1,1,none⟩) oS _).setCell (p:=⟨w+1+1+1,0,none⟩) oS _
  have r0:N.cell? ⟨w+1+1,0,none⟩=some (.bool (aG (a*b))):=by rw[<-E];simp[go_sem,G,H,I]
  have r1:N.cell? ⟨w+1+1,1,none⟩=some (.slice O S R):=by rw[<-E];simp[go_sem,G,H,I]
  have r2:N.cell? ⟨w+1+1+1,0,none⟩=some (.int .i64 0):=by rw[<-E];simp[go_sem,G,H,I]
  refine eM (f:=96) (args:=#[.pointer (some ⟨w+1+1+1,0,none⟩)]) oO oO oX (fun _ _=>bq) ?_;rw[E];refine(iJ ⟨w+1+1+1,0,none⟩ _).mono ?_;rintro e u' ag ⟨rfl,rfl,rfl⟩;refine⟨.tuple #[.agg #[.bool (aG (a*b)),.slice O S R],.int .i64 0],?_,_,by rw[Z.a],by rw[Z.u];exact⟨O,S,R,rfl,(H4.a.keep kF).less (fun k D=>by simp[D])⟩,bF⟩;simp[results,results95,go_sem,r0,r1,r2]
structure F1(w W:World):Prop where
 x0:W.cell? ⟨w,0,none⟩=some (.bool false)
 x1:W.cell? ⟨w,1,none⟩=some (.slice none 0 0)
 f0:W.frozen? ⟨w,0,none⟩=false
 f1:W.frozen? ⟨w,1,none⟩=false
 bl:Below w w W
 sz:w.heap.size+1<=W.heap.size
theorem F1.go(h:F1 w W)(hb:Below W W W'):F1 w W':=by have hs:=h.sz;exact⟨(hb.cell (p:=⟨w,0,none⟩) (show w.heap.size<_ by omega)).trans h.x0,(hb.cell (p:=⟨w,1,none⟩) (show w.heap.size<_ by omega)).trans h.x1,(hb.frozen (p:=⟨w,0,none⟩) (show w.heap.size<_ by omega)).trans h.f0,(hb.frozen (p:=⟨w,1,none⟩) (show w.heap.size<_ by omega)).trans h.f1,h.bl.trans (hb.mono h.bl.size),by have:=hb.size;omega⟩
theorem F1.start(w:World):F1 w (w.alloc (.cells #[.bool false,.slice none 0 0] 46)):=⟨oX,oX,oX,oX,by exact bel,oO⟩
theorem F1.fin(h:F1 w W){n:Nat}(hz:ZV W (w.heap.size::M) (.agg #[.bool q,.slice A n c]) z):
 ZV ((W.setCell ⟨w,0,none⟩ (.bool q)).setCell ⟨w,1,none⟩ (.slice A n c)) M (.agg #[.bool q,.slice A n c]) z/\Below w w ((W.setCell ⟨w,0,none⟩ (.bool q)).setCell ⟨w,1,none⟩ (.slice A n c)):=by
 obtain⟨f,n',g,e,hs⟩:=hz;refine⟨⟨f,n',g,e,(hs.keep (((cF _ W).setCell (p:=⟨w,0,none⟩) (.inl oO) _).setCell (p:=⟨w,1,none⟩) (.inl oO) _)).less (fun k i=>bz _ i)⟩,?_⟩;exact(h.bl.setCell (p:=⟨w,0,none⟩) pc _).setCell (p:=⟨w,1,none⟩) pc _
theorem WE(h:aG a≠aG b)(fa:fits a=true)(fb:fits b=true):fits (a+b)=true:=by
 have f:¬((a<0)↔(b<0)):=fun e=>h (decide_eq_decide.2 e);rcases Int.lt_or_le a.natAbs b.natAbs with c|c;·exact jZ (show(a+b).natAbs<=b.natAbs by omega) fb
 exact jZ (show(a+b).natAbs<=a.natAbs by omega) fa
theorem zB{n:Nat}(hM:b_ M w)(hx:Sl Int w M A n c (ints (bC v)))(hz:gJ neg v=z)(hf:fits z=true):
 Calls prog 140 #[.bool neg,.slice A n c] w fun e w'=>∃q A4 n4 c4,e=.returned (.agg #[.bool q,.slice A4 n4 c4])/\ZV w' M (.agg #[.bool q,.slice A4 n4 c4]) z/\Below w w w':=by
 subst hz;refine(Wv hM hx (aO _) (bI _) hf).mono ?_;rintro e w' ⟨u,rfl,⟨A4,n4,c4,rfl,hs⟩,hb⟩;exact⟨_,A4,n4,c4,rfl,⟨A4,n4,c4,rfl,hs⟩,hb⟩
theorem agD{n:Nat}(hx:Sl Int w M A n c (ints (bC v)))(hz:gJ neg v=z)(hf:fits z=false):
 Calls prog 140 #[.bool neg,.slice A n c] w fun e w'=>e=Wx 2/\Below w w w':=by
 subst hz;exact QE hx (aO _) (bI _) hf
theorem Eh{n:Nat}(hM:b_ M w)(hx:Sl Int w M A n c (ints (bG a)))(hy:Sl Int w M B m d (ints (bG b)))(fa:fits a=true)(fb:fits b=true):
 Calls prog 182 #[.bool (aG a),.slice A n c,.bool (aG b),.slice B m d] w fun e w'=>(fits (a+b)=true->∃q A4 n4 c4,e=.returned (.agg #[.bool q,.slice A4 n4 c4])/\ZV w' M (.agg #[.bool q,.slice A4 n4 c4]) (a+b))/\(fits (a+b)=false->e=Wx 2)/\Below w w w':=by
 refine wid ?_;have hn:n<=2048:=by have h:=cW fa;rw[hx.eu]at h;exact h
 have hm:m<=2048:=by have h:=cW fb;rw[hy.eu]at h;exact h
 have N:b_ (w.heap.size::M) (w.alloc (.cells #[.bool false,.slice none 0 0] 46)):=fun k J=>by
  simp only[cB]at J;rcases J with rfl|J;·simp
  have:=hM k J;simp;omega
 obtain⟨W1,aa⟩:=aC (w.alloc (.cells #[.bool false,.slice none 0 0] 46));have f1:F1 w W1:=by rw[<-aa];exact F1.start w
 rw[aa]at N;have X:=h_ ((hx.more (b:=w) pc).keep (a_ f1.bl _)) ((hy.more (b:=w) pc).keep (a_ f1.bl _)) N f1;have HF:=Hd2 fa fb;clear hx hy hM N f1;by_cases hs:aG a=aG b
 ·have o:=add_same hs;rw[<-hs];obtain⟨na,s⟩:=aC (aG a);rw[s]at o |-;have hq:(na==na)=true:=oO;clear hs s fa fb;cases j:fits (a+b)
  ·have r:=Hd j;clear j;refine sH func182 rfl ntmps182 ?_;simp only[et]
   gi_wp2_with (first
    |(refine Cl 140 (agD (v:=a.natAbs+b.natAbs) G.a o r.out) ?_;rintro e V ⟨rfl,p⟩;have Y:=Hd (G.u.go p);clear p)
    |(refine Cl 224 (LQ (x:=a.natAbs) (y:=b.natAbs) X.c X.a X.b oE oE) ?_;rintro e U ⟨K,T,L,rfl,g,f⟩;have G:=Hd2 g (X.w.go f);clear g f)
    |fail)
   exact⟨(fun h=>by cases h),fun _=>rfl,Y.out.bl⟩
  have r:=Hd j;clear j;refine sH func182 rfl ntmps182 ?_;simp only[et]
  gi_wp2_with (first
   |(refine Cl 140 (zB (v:=a.natAbs+b.natAbs) (X.c.le G.v.size) G.a o r.out) ?_;rintro e V ⟨q,A4,n4,c4,rfl,i,p⟩;have Y:=Hd2 (G.b.go p) i;have t:=Y.a.x0;have C:=Y.a.x1;have d0:=Y.a.f0;have d1:=Y.a.f1;clear p i)
   |(refine Cl 224 (LQ (x:=a.natAbs) (y:=b.natAbs) X.c X.a X.b oE oE) ?_;rintro e U ⟨K,T,L,rfl,g,f⟩;have G:=fB g (X.w.go f) f;clear g f)
   |fail)
  exact Bh
 ·have j:=WE hs fa fb;rw[j];have r:=Hd j;obtain⟨na,s⟩:=aC (aG a);obtain⟨nb,O⟩:=aC (aG b);have g:aG b≠aG a:=fun e=>hs e.symm;have R:b.natAbs<=a.natAbs->gJ na (a.natAbs-b.natAbs)=a+b:=fun h=>by rw[<-s];exact Ht hs h
  have S:a.natAbs<=b.natAbs->gJ nb (b.natAbs-a.natAbs)=a+b:=fun h=>by rw[<-O,Int.add_comm];exact Ht g h
  rw[s,O]at hs |-;have hq:(na==nb)=false:=by simpa using hs
  clear hs s O fa fb g j;obtain⟨cz,E⟩:=aC (qK a.natAbs b.natAbs);have Z:=Hd E;by_cases ab:b.natAbs<=a.natAbs
  ·have o:=R ab;have hcn:0<=cz:=by
    rw[<-E];rcases lh b.natAbs a.natAbs with h|h;·rw[pJ h];decide
    rw[uM oE];decide
   clear E R S;refine sH func182 rfl ntmps182 ?_;simp only[et]
   gi_wp2_with (first
    |(refine Cl 140 (zB (v:=a.natAbs-b.natAbs) (X.c.le G.v.size) G.a o r.out) ?_;rintro e V ⟨q,A4,n4,c4,rfl,i,p⟩;have Y:=Hd2 (G.b.go p) i;have t:=Y.a.x0;have C:=Y.a.x1;have d0:=Y.a.f0;have d1:=Y.a.f1;clear p i)
    |(refine Cl 225 (LW (x:=a.natAbs) (y:=b.natAbs) (X.c.le HB.out.size) (X.a.go HB.out) (X.b.go HB.out) oE ab) ?_;rintro e U ⟨K,T,L,rfl,g,f⟩;have G:=fB g ((X.w.go HB.out).go f) (HB.out.trans (f.mono HB.out.size));clear g f)
    |(refine Cl 98 (jo A B n c m d a.natAbs b.natAbs _ X.a X.b) ?_;rintro e w1 ⟨rfl,D⟩;rw[Z.out];have HB:=Hd D;clear D)
    |fail)
   exact Bh
  have o:=S oE;have hcn:¬0<=cz:=by rw[<-E,pI oE];decide
  clear E R S;refine sH func182 rfl ntmps182 ?_;simp only[et]
  gi_wp2_with (first
   |(refine Cl 140 (zB (v:=b.natAbs-a.natAbs) (X.c.le G.v.size) G.a o r.out) ?_;rintro e V ⟨q,A4,n4,c4,rfl,i,p⟩;have Y:=Hd2 (G.b.go p) i;have t:=Y.a.x0;have C:=Y.a.x1;have d0:=Y.a.f0;have d1:=Y.a.f1;clear p i)
   |(refine Cl 225 (LW (x:=b.natAbs) (y:=a.natAbs) (X.c.le HB.out.size) (X.b.go HB.out) (X.a.go HB.out) oE oE) ?_;rintro e U ⟨K,T,L,rfl,g,f⟩;have G:=fB g ((X.w.go HB.out).go f) (HB.out.trans (f.mono HB.out.size));clear g f)
   |(refine Cl 98 (jo A B n c m d a.natAbs b.natAbs _ X.a X.b) ?_;rintro e w1 ⟨rfl,D⟩;rw[Z.out];have HB:=Hd D;clear D)
   |fail)
  exact Bh
theorem Ig{n:Nat}(hM:b_ M w)(hx:Sl Int w M A n c (ints (bG a)))(hy:Sl Int w M B m d (ints (bG b))):
 ∃W1:World,(((w.alloc (.cells #[.bool (aG a),.slice A n c] 46)).alloc (.cells #[.bool (aG b),.slice B m d] 46)).alloc (.cells #[.bool false,.slice none 0 0] 46)).alloc (.cells #[.int .i64 0] 32)=W1/\
  F4 w W1 (aG a) (aG b) (.slice A n c) (.slice B m d)/\Sl Int W1 ((w.heap.size+1+1)::(w.heap.size+1+1+1)::M) A n c (ints (bG a))/\Sl Int W1 ((w.heap.size+1+1)::(w.heap.size+1+1+1)::M) B m d (ints (bG b))/\
  b_ ((w.heap.size+1+1)::(w.heap.size+1+1+1)::M) W1/\Sl lG (W1.alloc (.cells #[.bool (aG a),.slice A n c,.bool (aG b),.slice B m d] 46)) ((w.heap.size+1+1)::(w.heap.size+1+1+1)::M) (some ⟨W1,0,none⟩) 2 2 ([a,b].map jk):=by
 obtain⟨W1,g⟩:=aC ((((w.alloc (.cells #[.bool (aG a),.slice A n c] 46)).alloc (.cells #[.bool (aG b),.slice B m d] 46)).alloc (.cells #[.bool false,.slice none 0 0] 46)).alloc (.cells #[.int .i64 0] 32));have F1:F4 w W1 (aG a) (aG b) (.slice A n c) (.slice B m d):=by rw[<-g];exact F4.start w _ _ _ _ rfl rfl
 have h:=((hx.more (b:=w+1+1+1) oE).more (b:=w+1+1) oE).keep (a_ F1.bl _);have i:=((hy.more (b:=w+1+1+1) oE).more (b:=w+1+1) oE).keep (a_ F1.bl _);have f:b_ ((w.heap.size+1+1)::(w.heap.size+1+1+1)::M) W1:=fun k e=>by
  have:=F1.sz;simp only[cB]at e;rcases e with rfl|rfl|e;·omega
  ·omega
  have:=hM k e;omega
 exact⟨W1,g,F1,h,i,f,Sl.QF f h i⟩
theorem F4.fin(h:F4 w w4 na nb va vb){n:Nat}(hz:ZV w4 ((w.heap.size+1+1)::(w.heap.size+1+1+1)::M) (.agg #[.bool q,.slice A n c]) z):
 ∃wF,((w4.setCell ⟨w+1+1,0,none⟩ (.bool q)).setCell ⟨w+1+1,1,none⟩ (.slice A n c)).setCell ⟨w+1+1+1,0,none⟩ (.int .i64 0)=wF/\wF.cell? ⟨w+1+1,0,none⟩=some (.bool q)/\wF.cell? ⟨w+1+1,1,none⟩=some (.slice A n c)/\wF.cell? ⟨w+1+1+1,0,none⟩=some (.int .i64 0)/\ZV wF M (.agg #[.bool q,.slice A n c]) z/\Below w w wF:=by
 refine⟨_,rfl,?_,?_,?_,?_,?_⟩;·exact Np
 ·exact Np
 ·exact Np
 ·obtain⟨i,n',j,e,hs⟩:=hz;exact⟨i,n',j,e,(hs.keep ((((cF _ _).setCell (p:=⟨w+1+1,0,none⟩) (.inl oO) _).setCell (p:=⟨w+1+1,1,none⟩) (.inl oO) _).setCell (p:=⟨w+1+1+1,0,none⟩) (.inl oO) _)).less (fun k o=>by simp[o])⟩
 ·exact((h.bl.setCell (p:=⟨w+1+1,0,none⟩) oS _).setCell (p:=⟨w+1+1,1,none⟩) oS _).setCell (p:=⟨w+1+1+1,0,none⟩) oS _
theorem WG(hM:b_ M w)(ha:ZV w M va a)(hb:ZV w M vb b)(fa:fits a=true)(fb:fits b=true):
 Calls prog 135 #[va,vb] w (ZR w M (a+b)):=by
 refine wid ?_;obtain⟨A,n,c,rfl,hx⟩:=ha;obtain⟨B,m,d,rfl,N⟩:=hb;obtain⟨W1,ab,F1,L,O,K,C⟩:=Ig hM hx N;have X:=fB L O K;have F:=Hd F1;have HF:=Hd2 fa fb;have e0:=F1.a0;have e1:=F1.a1;have e2:=F1.b0;have e3:=F1.b1;have S:=Hd C;clear hx N hM L O K F1 fa fb C;cases i:fits (a+b)
 ·have Z:=Hd2 (Jw i) (Jy i);have r:=Hd i;clear i;refine qj func135 rfl ntmps135 ?_
  gi_wp2_with (first
   |(refine Cl 182 (Eh (X.v.le h.u.size) (X.a.go h.u) (X.b.go h.u) HF.a HF.u) ?_;rintro e w3 ⟨-,J,g⟩;obtain rfl:=J r.out;have Y:=Hd (h.a.go g);clear g J)
   |(refine Cl 97 (iR _ 2 2 [a,b] _ S.out (by simp[HF.a,HF.u])) ?_;rintro e s ⟨rfl,o⟩;have g:Below W1 W1 s:=((bw W1 W1).alloc pc (.cells #[.bool (aG a),.slice A n c,.bool (aG b),.slice B m d] 46)).trans (o.mono oO);have j:=F.out.go g;have v0:=j.a0;have v1:=j.a1;have v2:=j.b0;have v3:=j.b1;have h:=Hd2 j g;clear o g j)
   |fail)
  refine eM (f:=96) (args:=#[.pointer (some ⟨w+1+1+1,0,none⟩)]) oO oO oX (fun _ _=>bq) ?_;refine(Ef ⟨w+1+1+1,0,none⟩ 2 0 [] _ Y.out.e0 Y.out.fe).mono ?_;rintro e u' aa ⟨rfl,rfl,rfl⟩;have D:=Y.out.x0;have E:=Y.out.x1;have G:=Y.out.e0;refine⟨.tuple #[.agg #[.bool false,.slice none 0 0],.int .i64 2],?_,.agg #[.bool false,.slice none 0 0],by rw[Z.a],by rw[Z.u];exact ZV.zero _ _,Y.out.bl.setCell (p:=⟨w+1+1+1,0,none⟩) oS _⟩;simp[results,results135,go_sem,D,E,G]
 ·have Z:=Hd2 (nJ i) (nK i);have r:=Hd i;clear i;refine qj func135 rfl ntmps135 ?_
  gi_wp2_with (first
   |(refine Cl 182 (Eh (X.v.le h.u.size) (X.a.go h.u) (X.b.go h.u) HF.a HF.u) ?_;rintro e w3 ⟨I,-,g⟩;obtain⟨q,t,R,H,rfl,x⟩:=I r.out;have Y:=Hd2 (h.a.go g) x;have D:=Y.a.x0;have E:=Y.a.x1;have G:=Y.a.e0;have d0:=Y.a.f0;have d1:=Y.a.f1;have d2:=Y.a.fe;clear g I x)
   |(refine Cl 97 (iR _ 2 2 [a,b] _ S.out (by simp[HF.a,HF.u])) ?_;rintro e s ⟨rfl,o⟩;have g:Below W1 W1 s:=((bw W1 W1).alloc pc (.cells #[.bool (aG a),.slice A n c,.bool (aG b),.slice B m d] 46)).trans (o.mono oO);have j:=F.out.go g;have v0:=j.a0;have v1:=j.a1;have v2:=j.b0;have v3:=j.b1;have h:=Hd2 j g;clear o g j)
   |fail)
  obtain⟨wF,V,r0,r1,r2,T,U⟩:=Y.a.fin Y.u;refine eM (f:=96) (args:=#[.pointer (some ⟨w+1+1+1,0,none⟩)]) oO oO oX (fun _ _=>bq) ?_;rw[V];refine(iJ ⟨w+1+1+1,0,none⟩ _).mono ?_;rintro e u' aa ⟨rfl,rfl,rfl⟩;refine⟨.tuple #[.agg #[.bool q,.slice t R H],.int .i64 0],?_,.agg #[.bool q,.slice t R H],by rw[Z.a],by rw[Z.u];exact T,U⟩;simp[results,results135,go_sem,r0,r1,r2]
theorem Tn{n:Nat}(pe pq pr:Addr)(u:FrameMode)(w:World)(hc:w.cell? pe=some (.int .i64 0)):
 CallsDIn Fence.wide n prog 226 #[.pointer (some pe),.pointer (some pq),.pointer (some pr)] u w fun e u' w'=>u'=u/\(e=.returned (.tuple #[])/\w'=w):=by
 refine callsDIn_of_wp func226 rfl trivial ?_;simp only[ntmps226,lf,et,gh,Nat.reduceAdd,Nat.reduceSub,gH,gL,iG,fk,de,dx];gi_wp2;go_end0;exact⟨rfl,rfl⟩
structure F5(w W:World)(na nb:Bool)(va vb:Value):Prop where
 a0:W.cell? ⟨w,0,none⟩=some (.bool na)
 a1:W.cell? ⟨w,1,none⟩=some va
 b0:W.cell? ⟨w+1,0,none⟩=some (.bool nb)
 b1:W.cell? ⟨w+1,1,none⟩=some vb
 x0:W.cell? ⟨w+1+1,0,none⟩=some (.bool false)
 x1:W.cell? ⟨w+1+1,1,none⟩=some (.slice none 0 0)
 y0:W.cell? ⟨w+1+1+1,0,none⟩=some (.bool false)
 y1:W.cell? ⟨w+1+1+1,1,none⟩=some (.slice none 0 0)
 e0:W.cell? ⟨w+1+1+1+1,0,none⟩=some (.int .i64 0)
 f0:W.frozen? ⟨w+1+1,0,none⟩=false
 f1:W.frozen? ⟨w+1+1,1,none⟩=false
 g0:W.frozen? ⟨w+1+1+1,0,none⟩=false
 g1:W.frozen? ⟨w+1+1+1,1,none⟩=false
 fe:W.frozen? ⟨w+1+1+1+1,0,none⟩=false
 bl:Below w w W
 sz:w.heap.size+5<=W.heap.size
theorem F5.go(h:F5 w W na nb va vb)(hb:Below W W W'):F5 w W' na nb va vb:=by have hs:=h.sz;have c:∀(k o:Nat) (u:Value),k<w.heap.size+5->W.cell? ⟨k,o,none⟩=some u->W'.cell? ⟨k,o,none⟩=some u:=fun k o u g e=>(hb.cell (p:=⟨k,o,none⟩) (show k<_ by omega)).trans e;have f:∀(k o:Nat),k<w.heap.size+5->W.frozen? ⟨k,o,none⟩=false->W'.frozen? ⟨k,o,none⟩=false:=fun k o g e=>(hb.frozen (p:=⟨k,o,none⟩) (show k<_ by omega)).trans e;exact⟨c _ _ _ oE h.a0,c _ _ _ oE h.a1,c _ _ _ oE h.b0,c _ _ _ oE h.b1,c _ _ _ oE h.x0,c _ _ _ oE h.x1,c _ _ _ oE h.y0,c _ _ _ oE h.y1,c _ _ _ oE h.e0,f _ _ oE h.f0,f _ _ oE h.f1,f _ _ oE h.g0,f _ _ oE h.g1,f _ _ oE h.fe,h.bl.trans (hb.mono h.bl.size),by have:=hb.size;omega⟩
theorem F5.start(w:World)(na nb:Bool)(va vb:Value)(ha:va.cells=#[va])(hb:vb.cells=#[vb]):
 F5 w (((((w.alloc (.cells #[.bool na,va] 46)).alloc (.cells #[.bool nb,vb] 46)).alloc (.cells #[.bool false,.slice none 0 0] 46)).alloc (.cells #[.bool false,.slice none 0 0] 46)).alloc (.cells #[.int .i64 0] 32)) na nb va vb:=
 ⟨oX,oX,oX,oX,oX,oX,oX,oX,oX,oX,oX,oX,oX,oX,by exact bel,oO⟩
theorem Tq:fits 0=true:=by simp[fits,bG,bU]
theorem F5.fin{MM:List Nat}(h:F5 w w4 na nb va vb){r:Bool}{n:Nat}{y:Int}(hz:ZV w4 MM (.agg #[.bool q,.slice A n c]) z)(hy:ZV w4 MM (.agg #[.bool r,.slice B m d]) y)
 (hM:∀k,k∈M->k∈MM) (hX:w.heap.size+1+1∈MM/\w.heap.size+1+1+1∈MM/\w.heap.size+1+1+1+1∈MM):
 ∃wF,((((w4.setCell ⟨w+1+1,0,none⟩ (.bool q)).setCell ⟨w+1+1,1,none⟩ (.slice A n c)).setCell ⟨w+1+1+1,0,none⟩ (.bool r)).setCell ⟨w+1+1+1,1,none⟩ (.slice B m d)).setCell ⟨w+1+1+1+1,0,none⟩ (.int .i64 0)=wF/\
  wF.cell? ⟨w+1+1,0,none⟩=some (.bool q)/\wF.cell? ⟨w+1+1,1,none⟩=some (.slice A n c)/\wF.cell? ⟨w+1+1+1,0,none⟩=some (.bool r)/\wF.cell? ⟨w+1+1+1,1,none⟩=some (.slice B m d)/\
  wF.cell? ⟨w+1+1+1+1,0,none⟩=some (.int .i64 0)/\ZV wF M (.agg #[.bool q,.slice A n c]) z/\ZV wF M (.agg #[.bool r,.slice B m d]) y/\Below w w wF:=by
 have f:=h.x0;have C:=h.x1;have g:=h.y0;have i:=h.y1;have j:=h.e0;have t:=((((((cF MM w4).setCell (p:=⟨w+1+1,0,none⟩) (.inl hX.1) (.bool q)).setCell (p:=⟨w+1+1,1,none⟩) (.inl hX.1) (.slice A n c)).setCell (p:=⟨w+1+1+1,0,none⟩) (.inl hX.2.1) (.bool r)).setCell (p:=⟨w+1+1+1,1,none⟩) (.inl hX.2.1) (.slice B m d)).setCell (p:=⟨w+1+1+1+1,0,none⟩) (.inl hX.2.2) (.int .i64 0));refine⟨_,rfl,?_,?_,?_,?_,?_,?_,?_,?_⟩;·simp[go_sem,f,C,g,i,j]
 ·simp[go_sem,f,C,g,i,j]
 ·simp[go_sem,f,C,g,i,j]
 ·simp[go_sem,f,C,g,i,j]
 ·simp[go_sem,f,C,g,i,j]
 ·obtain⟨o,n',s,e,hs⟩:=hz;exact⟨o,n',s,e,(hs.keep t).less hM⟩
 ·obtain⟨o,n',s,e,hs⟩:=hy;exact⟨o,n',s,e,(hs.keep t).less hM⟩
 ·have b:=h.bl;exact((((b.setCell (p:=⟨w+1+1,0,none⟩) oS _).setCell (p:=⟨w+1+1,1,none⟩) oS _).setCell (p:=⟨w+1+1+1,0,none⟩) oS _).setCell (p:=⟨w+1+1+1,1,none⟩) oS _).setCell (p:=⟨w+1+1+1+1,0,none⟩) oS _
theorem L9(hM:b_ M w)(ha:ZV w M va a)(hb:ZV w M vb b)(fa:fits a=true)(fb:fits b=true)(hp:0<b)(h0:a.natAbs%b.natAbs=0):
 Calls prog 183 #[va,vb] w fun e w'=>∃u v,e=.returned (.tuple #[u,v,.int .i64 0])/\ZV w' M u (a/b)/\ZV w' M v 0/\Below w w w':=by
 refine wid ?_;obtain⟨A,n,c,rfl,hx⟩:=ha;obtain⟨B,m,d,rfl,K⟩:=hb;have hn:n<=2048:=by have h:=cW fa;rw[hx.eu]at h;exact h
 have I:=K.eu;have ai:m≠0:=by intro e;rw[e]at I;have:=jO.1 (c_.1 I);omega
 have D:aG b=false:=cE oE;have C:=(SI (a:=a) (b:=b) (.inl h0) oE).1;have V:fits (a/b)=true:=by
  refine jZ ?_ fa;rw[<-C];have:(gJ (aG a !=aG b) (a.natAbs/b.natAbs)).natAbs=a.natAbs/b.natAbs:=by generalize a.natAbs/b.natAbs=k;unfold gJ;split<;>omega
  rw[this];exact nQ _ _
 rw[D]at C;have af:0<b.natAbs:=oE;let MM:=(w.heap.size+1+1)::(w.heap.size+1+1+1)::(w.heap.size+1+1+1+1)::M;obtain⟨W1,ac⟩:=aC (((((w.alloc (.cells #[.bool (aG a),.slice A n c] 46)).alloc (.cells #[.bool false,.slice B m d] 46)).alloc (.cells #[.bool false,.slice none 0 0] 46)).alloc (.cells #[.bool false,.slice none 0 0] 46)).alloc (.cells #[.int .i64 0] 32));have F1:F5 w W1 (aG a) false (.slice A n c) (.slice B m d):=by rw[<-ac];exact F5.start w _ _ _ _ rfl rfl
 have J:Sl Int W1 MM A n c (ints (bG a)):=(((hx.more (b:=w+1+1+1+1) oE).more (b:=w+1+1+1) oE).more (b:=w+1+1) oE).keep (a_ F1.bl _);have L:Sl Int W1 MM B m d (ints (bG b)):=(((K.more (b:=w+1+1+1+1) oE).more (b:=w+1+1+1) oE).more (b:=w+1+1) oE).keep (a_ F1.bl _);have G:b_ MM W1:=fun k r=>by
  have:=F1.sz;simp only[MM,cB]at r;rcases r with rfl|rfl|rfl|r;·omega
  ·omega
  ·omega
  have:=hM k r;omega
 have S:=Sl.QF (na:=aG a) (nb:=false) G J L;have yU:Hid (Sl lG (W1.alloc (.cells #[.bool (aG a),.slice A n c,.bool false,.slice B m d] 46)) MM (some ⟨W1,0,none⟩) 2 2 ([a,b].map jk)):=by
  have e: [a,b].map jk= [(aG a,ints (bG a)),(false,ints (bG b))]:=by simp[jk,D]
  rw[e];exact S
 have X:=fB J L G;have F:=Hd F1;have HF:=oK fa fb V C h0;have QG:=Hd (show ∀k,k∈M->k∈MM from fun k r=>by simp[MM,r]);have ab:=Hd (show w.heap.size+1+1∈MM/\w.heap.size+1+1+1∈MM/\w.heap.size+1+1+1+1∈MM from by simp[MM]);have e0:=F1.a0;have e1:=F1.a1;have e2:=F1.b0;have e3:=F1.b1;have aj:∀(fn:Fn) (first cap:Array Value) (w:World),(Instr.makeFunc fn first cap).run prog w=.ok (.func fn first cap) w:=fun _ _ _ _=>rfl
 clear_value MM
 rw[D];clear hx K hM J L G F1 fa fb S V C h0 D I;generalize hna:aG a=na at*
 have aa:gJ na (a.natAbs/b.natAbs)=a/b:=by have:=HF.d;rwa [show(na !=false)=na from by cases na<;>rfl]at this
 have HR:=Hd aa;have FZ:=Hd Tq;clear aa hna;cases na;all_goals(
 refine qj func183 rfl ntmps183 ?_
 gi_wp2_with (first
  |(refine⟨bq,?_⟩;gi_at_call 140;have g:=s.out;clear g;refine Cn (zB (z:=0) (v:=0) (neg:=false) ((X.v.le Y.w.size).le s.v.size) (Y.c.go s.v) rfl FZ.out) ?_;rintro e w5 ⟨q5,A5,n5,c5,rfl,r_,H⟩;have i:=s.a.go H;have k0:=i.x0;have k1:=i.x1;have k2:=i.y0;have k3:=i.y1;have k4:=i.e0;have d0:=i.f0;have d1:=i.f1;have d2:=i.g0;have d3:=i.g1;have d4:=i.fe;have E:=fB i (s.b.go H) r_;clear r_ H i)
  |(refine Cl 140 (zB (v:=a.natAbs/b.natAbs) (X.v.le Y.w.size) Y.b HR.out HF.c) ?_;rintro e w4 ⟨q4,A4,n4,c4,rfl,N,hb4⟩;have R:=Y.a.go hb4;have s:=fB R N hb4;clear N hb4 R)
  |(refine Cl 185 (L8 (x:=a.natAbs) (y:=b.natAbs) (X.v.le o.u.size) (X.a.go o.u) (X.b.go o.u) oE af) ?_;rintro e w3 ⟨O,q,cO,O2,q2,Z7,rfl,T,t,p⟩;have ad:q2=0:=by
     have Z:=t.eu;rw[HF.x,bU]at Z;exact Z.symm
    rw[HF.x]at t;subst ad;have F3:=o.a.go p;have u0:=F3.a0;have u1:=F3.b0;have Y:=h_ F3 T t (o.u.trans (p.mono o.u.size));clear T t p F3)
  |(refine Cl 97 (iR _ 2 2 [a,b] _ yU.out (by simp[HF.a,HF.b])) ?_;rintro e w2 ⟨rfl,U⟩;have p:Below W1 W1 w2:=((bw W1 W1).alloc pc _).trans (U.mono oO);have j:=F.out.go p;have v0:=j.a0;have v1:=j.a1;have v2:=j.b0;have v3:=j.b1;have o:=Hd2 j p;clear U p j)
  |fail)
 clear k0 k1 k2 k3 k4 d0 d1 d2 d3 d4;obtain⟨wF,ae,r0,r1,r2,r3,r4,WH,ag,bF⟩:=E.a.fin E.b E.v QG.out ab.out;refine eM (f:=96) (args:=#[.pointer (some ⟨w+1+1+1+1,0,none⟩)]) oO oO oX (fun _ _=>bq) ?_;rw[ae];refine(iJ ⟨w+1+1+1+1,0,none⟩ _).mono ?_;rintro e u' ah ⟨rfl,rfl,rfl⟩;refine eM (f:=226) (args:=#[.pointer (some ⟨w+1+1+1+1,0,none⟩),.pointer (some ⟨w+1+1,0,none⟩),.pointer (some ⟨w+1+1+1,0,none⟩)]) (by simp[settle]) (by simp[settle]) oX (fun _ _=>bq) ?_;refine(Tn _ _ _ _ _ r4).mono ?_;rintro e u' ah ⟨rfl,rfl,rfl⟩;refine⟨.tuple #[.agg #[.bool q4,.slice A4 n4 c4],.agg #[.bool q5,.slice A5 n5 c5],.int .i64 0],?_,_,_,rfl,WH,ag,bF⟩;simp[results,results183,go_sem,r0,r1,r2,r3,r4])
end
