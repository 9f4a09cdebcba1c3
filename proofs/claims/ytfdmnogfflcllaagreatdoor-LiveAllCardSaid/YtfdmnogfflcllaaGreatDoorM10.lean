/- Lemmas -/
import Derived.RecoverIn
import Derived.Test.YtfdmnogfflcllaaGreatDoorM09
set_option linter.all false
set_option maxRecDepth 100000
set_option maxHeartbeats 0
namespace Go.Proofs.YtfdmnogfflcllaaGreatDoor
open Go.Proofs.Tryz Go.RowKit Go.Shelf
theorem Bo{p:Prop}(h:p:=by obtain⟨I,J⟩:=f.a.fin f.u;exact⟨.agg #[q,.slice A4 n4 c4],by simp[results,go_sem,C,D],fun _=>⟨q,A4,n4,c4,rfl,I⟩,(fun h=>by cases h),J⟩):p:=h
theorem EM{p:Prop}(h:p:=by
 refine ent func137 ntmps137 ?_;gi_wp2_with (first|(refine Cl 128 (lK _ _ c l _ j.out) ?_;rintro e D ⟨rfl,rfl⟩;rw[R.out])|(refine⟨bO,?_⟩))
 go_ret;exact⟨rfl,g.out⟩):p:=h
theorem EP{p:Prop}(h:p:=by
 refine ent func137 ntmps137 ?_;gi_wp2_with (refine⟨bO,?_⟩)
 go_ret;exact⟨rfl,g.out⟩):p:=h
theorem FW{p:Prop}(h:p:=by rw[f];clear f;refine ent func184 ntmps184 ?_;gi_wp2;go_ret;exact⟨rfl,rfl⟩):p:=h
theorem Ox{p:Prop}(h:p:=by refine ent func112 ntmps112 ?_;gi_wp2;go_ret;exact⟨rfl,f.out⟩):p:=h
theorem Oy{p:Prop}(h:p:=by have f:=h.x0;have G:=h.x1;have g:=h.e0;simp[go_sem,f,G,g]):p:=h
theorem Px{p:Prop}(h:p:=by exact((B.a.trans (f.mono (by rw[B.b];omega))).setCell (p:=⟨w,0,none⟩) pD _).setCell (p:=⟨w,1,none⟩) pD _):p:=h
theorem Zn{p:Prop}(h:p:=by gi_wp2;go_ret;exact⟨by rw[HZ.out,<-p.out,j.out];rfl,f.out⟩):p:=h
variable {M l:List Nat}{neg q na nb:Bool}{w W W' w4:World}{A B:Option Addr}{c k v y m d:Nat}{z a b:Int}{va vb:Value}
section
attribute [local go_sem] cX
def nI(d:Int):Bool:=decide (d<0)||decide (1073741823<d)
theorem YJ(l:List Int):l.any nI= !(l.all fun d=>decide (0<=d/\d<(BB:Int))):=by
 induction l with
 |nil=>rfl
 |cons d r ih=>
  rw[ij,List.all_cons,ih,Bool.not_and];congr 1;unfold nI;rw[<-BBi];by_cases e:d<0;·have:¬(0<=d/\d<1073741824):=pj;rw[cE this,cx e];rfl
  ·by_cases f:1073741823<d;·have:¬(0<=d/\d<1073741824):=pj;rw[cE this,cx f,Bool.or_true];rfl
   have:0<=d/\d<1073741824:=pj;rw[cx this,cE f,cE e];rfl
theorem Ed(d:Int)(w:World):Calls prog 184 #[d] w fun e w'=>e=.returned (.bool (nI d))/\w=w':=by
 refine wid ?_;by_cases g:d<0
 ·have f:nI d=true:=by simp[nI,g]
  exact FW
 by_cases s:1073741823<d
 ·have f:nI d=true:=by simp[nI,s]
  exact FW
 have f:nI d=false:=by simp[nI,g,s]
 exact FW
theorem acI(A:Option Addr)(n c:Nat)(l:List Int)(w:World)(hx:Sl Int w M A n c l):
 Calls prog 174 #[.slice A n c,.func (.func 184) #[] #[]] w fun e w'=>∃i:Int,e=.returned i/\decide (0<=i)=l.any nI/\w=w':=by
 refine wid ?_;have hs:=hx.small;have r:=hx.len;have H:=Hd hx;have HL:=Hd r;have C:=eR (P:=prog) func184 pk rfl;clear hx r;refine ent func174 ntmps174 ?_;gi_wp2;gi_loop[8] (fun i=>∃k:Nat,k<=n/\i=k/\Hid ((l.drop k).any nI=l.any nI)) (fun i=>n-(intOf i).toNat);case atStart=>exact⟨0,cf _,rfl,rfl⟩
 case round=>
  obtain⟨k,D,rfl,s⟩:=hrel;by_cases t:k<n
  ·obtain⟨b,o,x,rfl,K,-,p,-⟩:=H.out.pR t;have f:=s.out;rw[p,ij]at f;generalize hox:nI x=ox at*;have j:=Hd hox;have g:=Hd f;clear hox f p;cases ox
   ·gi_wp2_with (refine Cl 184 (Ed x _) ?_;rintro e u ⟨rfl,rfl⟩;rw[j.out])
    go_round;case rel=>exact⟨k+1,pj,by go_num,by have:=g.out;rwa [jz]at this⟩
    case measure=>simp[intOf];omega
   gi_wp2_with (refine Cl 184 (Ed x _) ?_;rintro e u ⟨rfl,rfl⟩;rw[j.out])
   go_ret;exact⟨k,rfl,by rw[<-g.out,nB];simp,rfl⟩
  ·have f:=s.out;rw[cB (by rw[HL.out];omega)]at f;have g:=Hd f;clear f;gi_wp2;go_ret;exact⟨-1,rfl,by rw[<-g.out];rfl,rfl⟩
theorem lK(A:Option Addr)(n c:Nat)(l:List Int)(w:World)(hx:Sl Int w M A n c l):
 Calls prog 128 #[.slice A n c,.func (.func 184) #[] #[]] w fun e w'=>e=.returned (.bool (l.any nI))/\w=w':=by
 refine wid ?_;have H:=Hd hx;clear hx;refine ent func128 ntmps128 ?_;gi_wp2_with (refine Cl 174 (acI A n c l _ H.out) ?_;rintro e g ⟨i,rfl,u,rfl⟩;have f:=Hd u;clear u)
 go_ret;exact⟨by rw[<-f.out];rfl,rfl⟩
theorem LY{l:List Int}{n:Nat}(hl:l.length=n):gZ (neg,l)=(decide (n<=2048)&& !(decide (n=0)&&neg)&&(l.getLast?.all fun d=>d !=0)&& !l.any nI):=by
 unfold gZ Lj;rw[YJ,Bool.not_not,hl];congr 4
 cases l with
 |nil=>simp at hl;subst hl;rfl
 |cons a r=>simp at hl;simp;intro e;omega
def rJ(b:Bool):Int:=if b then 0 else 90
theorem eF(A:Option Addr)(n c:Nat)(neg:Bool)(l:List Int)(w:World)(hx:Sl Int w M A n c l):
 CB 137 #[.agg #[neg,.slice A n c]] (.int .i64 (rJ (gZ (neg,l)))) w:=by
 refine wid ?_;have hs:=hx.small;have r:=hx.len;have H:=Hd hx;have f:=LY (neg:=neg) r;obtain⟨W1,p⟩:=aC (w.alloc (.cells #[neg,.slice A n c] 46));have b1:Below w w W1:=by rw[<-p];exact bel
 have G:W1.cell? ⟨w,0,none⟩=some (.bool neg):=by rw[<-p];simp[go_sem]
 have I:W1.cell? ⟨w,1,none⟩=some (.slice A n c):=by rw[<-p];simp[go_sem]
 have g:=Hd b1;have j:=Hd (hx.keep (bq b1 M));generalize gZ (neg,l)=z at*
 clear b1 hx;by_cases J:2048<n
 ·have i:z=false:=by rw[f,cE (show ¬n<=2048 by omega)];rfl
  subst i;clear f r;exact EP
 ·rw[cx (show n<=2048 by omega),fm]at f;rcases eC n with V|V
  ·subst V;have E:l= []:=de.1 r;subst E;have i:z= !neg:=by rw[f];simp
   subst i;clear f r;cases neg
   ·refine ent func137 ntmps137 ?_;gi_wp2_with (first|(refine Cl 128 (lK A _ c [] _ j.out) ?_;rintro e D ⟨rfl,rfl⟩)|(refine⟨bO,?_⟩))
    go_ret;exact⟨rfl,g.out⟩
   exact EP
  obtain⟨b,o,x,rfl,K,-,-,t⟩:=j.out.pR (show n-1<n by omega);have s:l.getLast?=some x:=by rw[lj,r];exact t
  rw[s,cE (show ¬n=0 by omega)]at f;simp only[nz,Bool.not_false,fm,Option.all_some]at f;have O:IntKind.i64.wrap ((n:Int)-1)=((n-1:Nat):Int):=by rw[cA];omega
  have N:n-1<n:=pj;by_cases C:x=0
  ·subst C;have i:z=false:=by rw[f];rfl
   subst i;clear f r s t;exact EP
  have L:(x==0)=false:=by simpa using C
  rw[show(x !=0)=true by simpa using C,fm]at f;obtain⟨q,u⟩:=aC (l.any nI);have R:=Hd u;rw[u]at f;subst f;clear r s t u;cases q;·exact EM
  exact EM
theorem fZ(A:Option Addr)(n c:Nat)(neg:Bool)(l:List Int)(w:World)(hx:Sl Int w M A n c l):
 CB 112 #[.agg #[neg,.slice A n c]] (.int .i64 (rJ (gZ (neg,l)))) w:=by
 refine wid ?_;have hs:=hx.small;have r:=hx.len;have H:=Hd hx;have e:=LY (neg:=neg) r;obtain⟨W1,t⟩:=aC (w.alloc (.cells #[neg,.slice A n c] 46));have b1:Below w w W1:=by rw[<-t];exact bel
 have R:W1.cell? ⟨w,0,none⟩=some (.bool neg):=by rw[<-t];simp[go_sem]
 have S:W1.cell? ⟨w,1,none⟩=some (.slice A n c):=by rw[<-t];simp[go_sem]
 have f:=Hd b1;have E:=Hd (hx.keep (bq b1 M));have HL:=Hd r;generalize gZ (neg,l)=z at*
 clear b1 hx;by_cases T:2048<n
 ·have s:z=false:=by rw[e,cE (show ¬n<=2048 by omega)];rfl
  subst s;clear e r;exact Ox
 ·rw[cx (show n<=2048 by omega),fm]at e;rcases eC n with V|V
  ·subst V;have K:l= []:=de.1 r;subst K;have s:z= !neg:=by rw[e];simp
   subst s;clear e r;cases neg
   ·refine ent func112 ntmps112 ?_;gi_wp2;gi_loop[4] (fun i=>i=.int .i64 0) (fun _=>0);case atStart=>rfl
    case round=>subst hrel;gi_wp2;go_ret;exact⟨rfl,f.out⟩
   exact Ox
  obtain⟨b,o,x,rfl,X,-,-,C⟩:=E.out.pR (show n-1<n by omega);have u:l.getLast?=some x:=by rw[lj,r];exact C
  rw[u,cE (show ¬n=0 by omega)]at e;simp only[nz,Bool.not_false,fm,Option.all_some]at e;have kw:IntKind.i64.wrap ((n:Int)-1)=((n-1:Nat):Int):=by rw[cA];omega
  have kj:n-1<n:=pj;by_cases D:x=0
  ·subst D;have s:z=false:=by rw[e];rfl
   subst s;clear e r u C;exact Ox
  have aa:(x==0)=false:=by simpa using D
  rw[show(x !=0)=true by simpa using D,fm]at e;have HZ:=Hd e;clear r u C e;refine ent func112 ntmps112 ?_;gi_wp2;gi_loop[4] (fun i=>∃k:Nat,k<=n/\i=k/\Hid ((l.drop k).any nI=l.any nI)) (fun i=>n-(intOf i).toNat);case atStart=>exact⟨0,cf _,rfl,rfl⟩
  case round=>
   obtain⟨k,Z,rfl,I⟩:=hrel;by_cases L:k<n
   ·obtain⟨O,o',y,J,Y,-,G,-⟩:=E.out.pR L;cases J;have g:=I.out;rw[G,ij]at g;have p:=Hd g;clear g G;by_cases N:y<0;·have j:=Hd (show nI y=true by simp[nI,N]);exact Zn
    by_cases ab:1073741824<=y;·have j:=Hd (show nI y=true by simp[nI];omega);exact Zn
    have j:=Hd (show nI y=false by simp[nI];omega);gi_wp2;go_round;case rel=>exact⟨k+1,pj,by go_num,by have:=p.out;rwa [j.out,jz]at this⟩
    case measure=>simp[intOf];omega
   ·have g:=I.out;rw[cB (by rw[HL.out];omega)]at g;have p:=Hd g;clear g;gi_wp2;go_ret;exact⟨by rw[HZ.out,<-p.out];rfl,f.out⟩
theorem Sl.LZ{n:Nat}{xs:List lG}(h:Sl lG w M A n c xs){l:List Int}(hk:xs[k]?=some (neg,l)):
 ∃b o A' n' c',A=some ⟨b,o,none⟩/\w.cell? ⟨b,o+k*2,none⟩=some (.bool neg)/\w.cell? ⟨b,o+k*2+1,none⟩=some (.slice A' n' c')/\Sl Int w M A' n' c' l:=by
 obtain⟨b,o,j,rfl,g,e⟩:=h.get hk;obtain⟨f,p,rfl,s,A',n',c',rfl,i⟩:=g;have s:f= [.bool neg]:=s;subst s;refine⟨b,o,A',n',c',rfl,?_,?_,i⟩;·have:=e.2 0 neg rfl;exact this
 ·have:=e.2 1 (.slice A' n' c') rfl;exact this
theorem iR(A:Option Addr)(n c:Nat)(zs:List Int)(w:World)(hx:Sl lG w M A n c (zs.map jk))(hz:∀z,z∈zs->fits z=true):
 CB 97 #[.slice A n c] (.tuple #[]) w:=by
 refine wid ?_;have hs:=hx.small;have r:zs.length=n:=by have:=hx.len;simpa using this
 have H:=Hd hx;have HZ:=Hd hz;have HL:=Hd r;clear hx hz r;refine ent func97 ntmps97 ?_;gi_wp2;gi_loopw[7] (fun i wr=>∃k:Nat,k<=n/\i=k/\Below w w wr) (fun i _=>n-(intOf i).toNat);case atStart=>exact⟨0,cf _,rfl,bL _ _⟩
 case round=>
  obtain⟨k,E,rfl,hb⟩:=hrel;by_cases u:k<n
  ·obtain⟨z,hz⟩:=dW zs k (by rw[HL.out];exact u);obtain⟨b,o,g,n',s,rfl,C,D,Y⟩:=(H.out.keep (bq hb M)).LZ (k:=k) (neg:=aG z) (l:=ints (bG z)) (by rw[cM,hz];rfl);have hok:=j_ z (HZ.out z (bh hz));have S:=Hd Y;have p:=Hd (show rJ (gZ (aG z,ints (bG z)))=0 by rw[show(aG z,ints (bG z))=jk z from rfl,hok];rfl);clear Y hok hz;gi_wp2_with (refine Cl 137 (eF g n' s (aG z) (ints (bG z)) _ (S.out.go (by exact bel))) ?_;rintro e x ⟨rfl,f⟩;rw[p.out];have j:=Hd f;clear f)
   have t:Below w w x:=(hb.alloc hb.size _).trans (j.out.mono (by simp;have:=hb.size;omega));exact⟨⟨k+1,pj,by go_num,t⟩,by simp[intOf];omega⟩
  ·gi_wp2;go_end0;exact⟨rfl,hb⟩
abbrev Tj(x:Int):Value:=.iface 32 x
theorem Ee(x:Int)(w:World):(Instr.typeAssert (Tj x) 20 32 true).run prog w=.ok (.tuple #[x,true]) w:=pk
theorem Ef{n:Nat}(p:Addr)(x y:Int)(older:List PanicEntry)(w:World)(hc:w.cell? p=some (.int .i64 y))(hf:w.frozen? p=false):
 CallsDIn Fence.wide n prog 96 #[.pointer (some p)] (.panicking ({ v:=Tj x,recovered:=false }::older)) w fun e u' w'=>e=.returned (.tuple #[])/\u'=.panicking ({ v:=Tj x,recovered:=true }::older)/\w'=w.setCell p x:=by
 refine callsDIn_of_wpSIn func96 rfl trivial fun c₀ cs hu=>?_;apply wpSIn_seq;apply wpSIn_region;simp[wpOpsSIn,go_sem,recoverD,hu,ntmps96,Exit.thenS];refine wpSIn_of_wpIn rfl ?_;refine nE (Q:=fun e f w'=>e=.normal/\f.defers= []/\w'=w.setCell p (.int .i64 x)) ?_ ?_;rotate_left;·rintro e f w' ⟨rfl,g,rfl⟩;simp[bodyPostS,results,results96,g]
 clear hu;have i:=Ee x;simp only[gR,gS,i_,fp,df,d_,eN,fq,eM];gi_wp2
theorem iJ{n:Nat}(p:Addr)(w:World):
 CallsDIn Fence.wide n prog 96 #[.pointer (some p)] .returning w fun e u' w'=>e=.returned (.tuple #[])/\u'=.returning/\w'=w:=by
 refine callsDIn_of_wpSIn func96 rfl trivial fun c₀ cs hu=>?_;apply wpSIn_seq;apply wpSIn_region;simp[wpOpsSIn,go_sem,recoverD,hu,ntmps96,Exit.thenS];refine wpSIn_of_wpIn rfl ?_;refine nE (Q:=fun e f w'=>e=.normal/\f.defers= []/\w'=w) ?_ ?_;rotate_left;·rintro e f w' ⟨rfl,g,rfl⟩;cases c₀;simp_all[bodyPostS,results,results96,g]
 clear hu;simp only[gR,gS,i_,fp,df,d_,eN,fq,eM];gi_wp2
theorem yD:fits (gJ neg v)=decide ((bC v).length<=2048):=by unfold fits;rw[yw]
theorem ZV.less{w:World}{M M':List Nat}{v:Value}{z:Int}(h:ZV w M v z)(hs:∀k,k∈M'->k∈M):ZV w M' v z:=by obtain⟨A,n,c,rfl,h⟩:=h;exact⟨A,n,c,rfl,h.less hs⟩
theorem ZV.BJ{wr w2:World}{O:Option Addr}{cO q:Nat}(hs:Sl Int wr M O k cO (ints l))(hq:q<=k)(ht:l.take q=bC (val l))(hv:val l=v)(hb2:Keeps M wr w2):
 ZV w2 M (.agg #[.bool (neg&&decide (0<q)),.slice O q cO]) (gJ neg v):=by
 have h:=(hs.keep hb2).nY hq;rw[eG,ht,hv]at h;have r:=h.len;rw[jm]at r;refine⟨O,q,cO,?_,?_⟩;·rw[Le,r]
 ·rw[yw];exact h
theorem Wv{n:Nat}(hM:b_ M w)(hx:Sl Int w M A n c (ints l))(hg:Good l)(hv:val l=v)(hf:fits (gJ neg v)=true):
 Calls prog 140 #[neg,.slice A n c] w fun e w'=>∃u,e=.returned u/\ZV w' M u (gJ neg v)/\Below w w w':=by
 refine wid ?_;have hs:=hx.small;obtain⟨W1,r⟩:=aC (w.alloc (.cells #[false,.slice none 0 0] 46));have b1:Below w w W1:=by rw[<-r];exact bel
 have s:W1.heap.size=w.heap.size+1:=by rw[<-r];simp
 have g:W1.cell? ⟨w,0,none⟩=some (.bool false):=by rw[<-r];simp[go_sem]
 have G:W1.cell? ⟨w,1,none⟩=some (.slice none 0 0):=by rw[<-r];simp[go_sem]
 have f0:W1.frozen? ⟨w,0,none⟩=false:=by rw[<-r];simp[go_sem]
 have f1:W1.frozen? ⟨w,1,none⟩=false:=by rw[<-r];simp[go_sem]
 rw[yD]at hf;have H:=cW hf;have S:=h_ ((hx.more (b:=w) pD).keep (bq b1 _)) hg hv hM;have B:=Zw b1 s g G f0 f1;have HF:=Hd H;have HL:=Hd hx.eu;clear hx hg hv hM b1 s g G f0 f1 hf H;have fin:∀(i:World) (q:Nat),q<=n->l.take q=bC (val l)->Below W1 W1 i->∀(u:Value),ZV ((i.setCell ⟨w,0,none⟩ u).setCell ⟨w,1,none⟩ (.slice A q c)) M (.agg #[.bool (neg&&decide (0<q)),.slice A q c]) (gJ neg v)/\Below w w ((i.setCell ⟨w,0,none⟩ u).setCell ⟨w,1,none⟩ (.slice A q c)):=by intro i q o X f u;refine⟨(ZV.BJ S.out.1 o X S.c ((bq f _).trans (((cG _ _).setCell (p:=⟨w,0,none⟩) (.inl po) _).setCell (p:=⟨w,1,none⟩) (.inl po) _))).less (fun k K=>bE _ K),?_⟩;exact Px
 have E:=Hd fin;clear fin;cases neg
 ·refine sH func140 rfl ntmps140 ?_;gi_wp2_with (refine Cl 186 (jw A n c l _ S.out.1 S.b) ?_;rintro e i ⟨q,rfl,o,X,f⟩;have L:q<=2048:=(by have h:=HF.out;rw[<-S.c,<-X,cI,HL.out]at h;omega);obtain⟨b1,s,g,G,f0,f1⟩:=B.out;have x:i.cell? ⟨w,0,none⟩=some (.bool false):=(f.cell (p:=⟨w,0,none⟩) px).trans g;have C:i.cell? ⟨w,1,none⟩=some (.slice none 0 0):=(f.cell (p:=⟨w,1,none⟩) px).trans G;have I:i.frozen? ⟨w,0,none⟩=false:=(f.frozen (p:=⟨w,0,none⟩) px).trans f0;have J:i.frozen? ⟨w,1,none⟩=false:=(f.frozen (p:=⟨w,1,none⟩) px).trans f1;have j:=fB X o f;clear X o f b1 s g G f0 f1)
  obtain⟨t,D⟩:=E.out i q j.b j.a j.v false;rw[nz]at t;exact⟨.agg #[false,.slice A q c],by simp[results,go_sem,x,C],_,rfl,t,D⟩
 ·refine sH func140 rfl ntmps140 ?_;gi_wp2_with (refine Cl 186 (jw A n c l _ S.out.1 S.b) ?_;rintro e i ⟨q,rfl,o,X,f⟩;have L:q<=2048:=(by have h:=HF.out;rw[<-S.c,<-X,cI,HL.out]at h;omega);obtain⟨b1,s,g,G,f0,f1⟩:=B.out;have x:i.cell? ⟨w,0,none⟩=some (.bool false):=(f.cell (p:=⟨w,0,none⟩) px).trans g;have C:i.cell? ⟨w,1,none⟩=some (.slice none 0 0):=(f.cell (p:=⟨w,1,none⟩) px).trans G;have I:i.frozen? ⟨w,0,none⟩=false:=(f.frozen (p:=⟨w,0,none⟩) px).trans f0;have J:i.frozen? ⟨w,1,none⟩=false:=(f.frozen (p:=⟨w,1,none⟩) px).trans f1;have j:=fB X o f;clear X o f b1 s g G f0 f1)
  obtain⟨t,D⟩:=E.out i q j.b j.a j.v (.bool (decide (0<q)));rw[fm]at t;exact⟨.agg #[.bool (decide (0<q)),.slice A q c],by simp[results,go_sem,x,C],_,rfl,t,D⟩
abbrev Wx(x:Int):Ending:=.panicked [{ v:=Tj x,recovered:=false }]
theorem QE{n:Nat}(hx:Sl Int w M A n c (ints l))(hg:Good l)(hv:val l=v)(hf:fits (gJ neg v)=false):
 Calls prog 140 #[neg,.slice A n c] w fun e w'=>e=Wx 2/\Below w w w':=by
 refine wid ?_;have hs:=hx.small;rw[yD]at hf;have g:=gp hf;have S:=fB hx hg hv;have HF:=Hd g;have HL:=Hd hx.eu;clear hx hg hv hf g;refine sH func140 rfl ntmps140 ?_;gi_wp2_with (refine Cl 186 (jw A n c l _ (S.out.1.go (by exact bel)) S.b) ?_;rintro e j ⟨q,rfl,i,X,f⟩;have o:2048<q:=(by have h:=HF.out;rw[<-S.v,<-X,cI,HL.out]at h;omega);have HB:=Hd f;clear X i f)
 have hb:Below w w j:=((bL w w).alloc pD (.cells #[false,.slice none 0 0] 46)).trans (HB.out.mono po)
 first
  |exact⟨rfl,hb⟩
  |exact⟨rfl,rfl,hb⟩
  |exact⟨rfl,.inl ⟨rfl,hb⟩⟩
def Wy(z:Int):Int:=if fits z then 0 else 2
def WA(z:Int):Int:=if fits z then z else 0
theorem nJ(h:fits z=true):Wy z=0:=by simp[Wy,h]
theorem Jw(h:fits z=false):Wy z=2:=by simp[Wy,h]
theorem nK(h:fits z=true):WA z=z:=by simp[WA,h]
theorem Jy(h:fits z=false):WA z=0:=by simp[WA,h]
def ZR(w:World)(M:List Nat)(z:Int)(e:Ending)(w':World):Prop:=∃u,e=.returned (.tuple #[u,.int .i64 (Wy z)])/\ZV w' M u (WA z)/\Below w w w'
theorem agX{n:Nat}(hM:b_ M w)(hx:Sl Int w M A n c (ints l))(hg:Good l)(hv:val l=v):
 Calls prog 158 #[neg,.slice A n c] w (ZR w M (gJ neg v)):=by
 refine wid ?_;have hs:=hx.small;obtain⟨W1,t⟩:=aC (w.alloc (.cells #[false,.slice none 0 0] 46));have b1:Below w w W1:=by rw[<-t];exact bel
 have s:W1.heap.size=w.heap.size+1:=by rw[<-t];simp
 have g:W1.cell? ⟨w,0,none⟩=some (.bool false):=by rw[<-t];simp[go_sem]
 have G:W1.cell? ⟨w,1,none⟩=some (.slice none 0 0):=by rw[<-t];simp[go_sem]
 have f0:W1.frozen? ⟨w,0,none⟩=false:=by rw[<-t];simp[go_sem]
 have f1:W1.frozen? ⟨w,1,none⟩=false:=by rw[<-t];simp[go_sem]
 have S:=h_ ((hx.more (b:=w) pD).keep (bq b1 _)) hg hv hM;have B:=Zw b1 s g G f0 f1;have HL:=Hd hx.eu;clear hx hg hv hM b1 s g G f0 f1;have fin:∀(i:World) (q:Nat),q<=n->l.take q=bC (val l)->Below W1 W1 i->∀(u:Value),ZV ((i.setCell ⟨w,0,none⟩ u).setCell ⟨w,1,none⟩ (.slice A q c)) M (.agg #[.bool (neg&&decide (0<q)),.slice A q c]) (gJ neg v)/\Below w w ((i.setCell ⟨w,0,none⟩ u).setCell ⟨w,1,none⟩ (.slice A q c)):=by intro i q o X f u;refine⟨(ZV.BJ S.out.1 o X S.c ((bq f _).trans (((cG _ _).setCell (p:=⟨w,0,none⟩) (.inl po) _).setCell (p:=⟨w,1,none⟩) (.inl po) _))).less (fun k L=>bE _ L),?_⟩;exact Px
 have H:=Hd fin;clear fin;cases j:fits (gJ neg v)
 ·have Z:=Hd2 (Jw j) (Jy j);rw[yD]at j;have HF:=Hd (gp j);clear j;refine sH func158 rfl ntmps158 ?_;gi_wp2_with (refine Cl 192 (jy A n c l _ S.out.1 S.b) ?_;rintro e i ⟨q,rfl,o,X,f⟩;have K:2048<q:=(by have h:=HF.out;rw[<-S.c,<-X,cI,HL.out]at h;omega);obtain⟨b1,s,g,G,f0,f1⟩:=B.out;have x:i.cell? ⟨w,0,none⟩=some (.bool false):=(f.cell (p:=⟨w,0,none⟩) px).trans g;have C:i.cell? ⟨w,1,none⟩=some (.slice none 0 0):=(f.cell (p:=⟨w,1,none⟩) px).trans G;have I:i.frozen? ⟨w,0,none⟩=false:=(f.frozen (p:=⟨w,0,none⟩) px).trans f0;have J:i.frozen? ⟨w,1,none⟩=false:=(f.frozen (p:=⟨w,1,none⟩) px).trans f1;have r:=fB X o f;clear X o f b1 s g G f0 f1)
  refine⟨.tuple #[.agg #[false,.slice none 0 0],.int .i64 2],by simp[results,go_sem,x,C],.agg #[false,.slice none 0 0],by rw[Z.a],?_,?_⟩;·rw[Z.u];exact ZV.zero _ _
  exact((B.a.trans (r.v.mono (by rw[B.b];omega))).setCell (p:=⟨w,0,none⟩) pD _).setCell (p:=⟨w,1,none⟩) pD _
 ·have Z:=Hd2 (nJ j) (nK j);rw[yD]at j;have HF:=Hd (cW j);clear j;cases neg
  ·refine sH func158 rfl ntmps158 ?_;gi_wp2_with (refine Cl 192 (jy A n c l _ S.out.1 S.b) ?_;rintro e i ⟨q,rfl,o,X,f⟩;have K:q<=2048:=(by have h:=HF.out;rw[<-S.c,<-X,cI,HL.out]at h;omega);obtain⟨b1,s,g,G,f0,f1⟩:=B.out;have x:i.cell? ⟨w,0,none⟩=some (.bool false):=(f.cell (p:=⟨w,0,none⟩) px).trans g;have C:i.cell? ⟨w,1,none⟩=some (.slice none 0 0):=(f.cell (p:=⟨w,1,none⟩) px).trans G;have I:i.frozen? ⟨w,0,none⟩=false:=(f.frozen (p:=⟨w,0,none⟩) px).trans f0;have J:i.frozen? ⟨w,1,none⟩=false:=(f.frozen (p:=⟨w,1,none⟩) px).trans f1;have r:=fB X o f;clear X o f b1 s g G f0 f1)
   obtain⟨D,E⟩:=H.out i q r.b r.a r.v false;rw[nz]at D;refine⟨.tuple #[.agg #[false,.slice A q c],.int .i64 0],by simp[results,go_sem,x,C],.agg #[false,.slice A q c],by rw[Z.a],by rw[Z.u];exact D,E⟩
  refine sH func158 rfl ntmps158 ?_;gi_wp2_with (refine Cl 192 (jy A n c l _ S.out.1 S.b) ?_;rintro e i ⟨q,rfl,o,X,f⟩;have K:q<=2048:=(by have h:=HF.out;rw[<-S.c,<-X,cI,HL.out]at h;omega);obtain⟨b1,s,g,G,f0,f1⟩:=B.out;have x:i.cell? ⟨w,0,none⟩=some (.bool false):=(f.cell (p:=⟨w,0,none⟩) px).trans g;have C:i.cell? ⟨w,1,none⟩=some (.slice none 0 0):=(f.cell (p:=⟨w,1,none⟩) px).trans G;have I:i.frozen? ⟨w,0,none⟩=false:=(f.frozen (p:=⟨w,0,none⟩) px).trans f0;have J:i.frozen? ⟨w,1,none⟩=false:=(f.frozen (p:=⟨w,1,none⟩) px).trans f1;have r:=fB X o f;clear X o f b1 s g G f0 f1)
  obtain⟨D,E⟩:=H.out i q r.b r.a r.v (.bool (decide (0<q)));rw[fm]at D;refine⟨.tuple #[.agg #[.bool (decide (0<q)),.slice A q c],.int .i64 0],by simp[results,go_sem,x,C],.agg #[.bool (decide (0<q)),.slice A q c],by rw[Z.a],by rw[Z.u];exact D,E⟩
def DR2(w:World)(M:List Nat)(x y:Nat)(e:Ending)(w':World):Prop:=∃O q cO O2 q2 Z7,e=.returned (.tuple #[.slice O q cO,.slice O2 q2 Z7])/\Sl Int w' M O q cO (ints (bC x))/\Sl Int w' M O2 q2 Z7 (ints (bC y))/\Below w w w'
theorem YK(h:(bC y).length=1):bC y= [y]/\0<y/\y<=1073741823:=by
 have V:y≠0:=by intro e;rw[e,bU]at h;simp at h
 have f:y<BB^1:=(lY y 1).2 pj;rw[Nat.pow_one]at f;refine⟨?_,pj,g_ f⟩;rw[iP V,nL f,nQ f,bU]
theorem L8{n x:Nat}(hM:b_ M w)(hx:Sl Int w M A n c (ints (bC x)))(hy:Sl Int w M B m d (ints (bC y)))(hn:n<=4990)(hy0:0<y):
 Calls prog 185 #[.slice A n c,.slice B m d] w (DR2 w M (x/y) (x%y)):=by
 refine wid ?_;have t:=hx.eu;have j:=hy.eu;have o:=hy.small;have H:=Hd hx;have G:=Hd hy;have HM:=Hd hM;by_cases s:x<y
 ·have hc:=Hd (pI s);have hq:=Hd2 (nQ s) (nL s);clear hx hy hM t j;refine ent func185 ntmps185 ?_;gi_wp2_with (refine Cl 98 (jo A B n c m d x y _ H.out G.out) ?_;rintro e R ⟨rfl,hb⟩;rw[hc.out];have HB:=Hd hb;clear hb)
  go_ret2;rw[hq.a,hq.u];exact⟨none,0,0,A,n,c,rfl,by rw[bU];exact Sl.nil0,H.out.go HB.out,HB.out⟩
 ·have ae:m<=n:=by rw[<-t,<-j];exact kR (oc s)
  have K:qK x y=0\/qK x y=1:=by
   rcases lP y x with h|h;·exact .inr (pJ h)
   exact .inl (uM pj)
  obtain⟨cz,E⟩:=aC (qK x y);rw[E]at K;have S:=Hd E;clear E;have hcn:¬cz<0:=pj;have ai:m≠0:=by intro e;rw[e]at j;have:=jO.1 (de.1 j);omega
  by_cases ad:m=1
  ·subst ad;obtain⟨V,X,d3⟩:=YK j;obtain⟨b0,o0,dt,rfl,J,ah,L,-⟩:=hy.mG (aO y) (show 0<1 by omega);rw[V]at L;obtain rfl:y=dt:=by simpa using L
   rw[eB]at J;have aj:=k_ x X;clear hx hy hM t j V L K;refine ent func185 ntmps185 ?_
   gi_wp2_with (first
    |(refine Cl 186 (jw (M:=M) _ _ _ [x%y] _ D.a D.u) ?_;rintro e w3 ⟨q3,rfl,aa,ac,Z⟩;have r:=fB aa ac Z;clear aa ac Z)
    |(refine Cl 227 (short_any (x:=x) (d:=y) (HM.out.le f.out.size) (H.out.go f.out) pj X pj) ?_;rintro e i ⟨C,N,I,rfl,o,p⟩;have g:=Hd2 o p;clear o p;have D:Hid (Sl Int (i.alloc (.cells #[.int .i64 ((x%y:Nat):Int)] 3)) M (some ⟨i,0,none⟩) 1 1 (ints [x%y])/\Good [x%y]):=by have hg:Good [x%y]:=nT (Hy pj) tu;have hr:Row (i.alloc (.cells #[.int .i64 ((x%y:Nat):Int)] 3)) i.heap.size (ints [x%y]):=gH i _;exact⟨hr.sl (fun e=>by have:=HM.out _ e;have:=f.out.size;have:=g.u.size;omega) rfl pj (fU hg),hg⟩)
    |(refine Cl 98 (jo A _ n c 1 d x y _ H.out G.out) ?_;rintro e R ⟨rfl,hb⟩;rw[S.out];have f:=Hd hb;clear hb;have ag:R.cell? ⟨b0,o0,none⟩=some (.int .i64 (y:Int)):=(f.out.cell (bw w _ J)).trans J)
    |fail)
   have af:val [x%y]=x%y:=by simp[val]
   have Y:=(D.a.go r.v).nY r.a;rw[eG,r.b,af]at Y;have T:Below i i w3:=((bL i i).alloc pD (.cells #[.int .i64 ((x%y:Nat):Int)] 3)).trans (r.v.mono po);go_ret2;exact⟨C,N,I,_,q3,1,rfl,g.a.go T,Y,f.out.trans ((g.u.trans (T.mono g.u.size)).mono f.out.size)⟩
  clear hx hy hM t j K;refine ent func185 ntmps185 ?_
  gi_wp2_with (first
   |(refine Cl 228 (Wp (x:=x) (y:=y) (HM.out.le f.out.size) (H.out.go f.out) (G.out.go f.out) hn pj ae) ?_;rintro e i ⟨O,q,cO,C,N,I,rfl,ab,o,p⟩;have g:=fB ab o (f.out.trans (p.mono f.out.size));clear ab o p)
   |(refine Cl 98 (jo A B n c m d x y _ H.out G.out) ?_;rintro e R ⟨rfl,hb⟩;rw[S.out];have f:=Hd hb;clear hb)
   |fail)
  go_ret2;exact⟨O,q,cO,C,N,I,rfl,g.a,g.b,g.v⟩
end
section
variable {F:Fence}{n:Nat}{P:Program}{Mr:List Nat}{md:Region.Mode}{ops:Array Oper}{Q Q':Exit→Act→World→Prop}
theorem Jz{i:Nat}{K:Act->World->Prop}{a:Act}(hq:∀e a w,Q e a w->Q' e a w)(hh:wpOpIn F n P ops Q i K a w):wpOpIn F n P ops Q' i K a w:=by
 have g:LetsOut Q->LetsOut Q':=fun⟨a,w,h⟩=>⟨a,w,hq _ _ _ h⟩;unfold wpOpIn at*
 split;·simpa[*]using hh
 rename_i o ho;simp only[ho]at hh;split
 ·rename_i hw;simp only[hw,mf]at hh;unfold Oper.wpIn at*;refine⟨hh.1,?_⟩;have hh:=hh.2;generalize (o.semAt F.round a.eval).run P w=r at*
  cases r with
  |ok x w'=>
   cases x<;>simp only[Oper.uponIn]at hh |- <;>first
    |exact hh
    |exact⟨hh.1,CallsIn.mono hh.2 (fun e j f=>by cases e<;>first|exact f|exact hq _ _ _ f|exact g f)⟩
    |exact⟨hh.1,RoundIn.mono hh.2 (fun e j f=>by cases e<;>first|exact f|exact hq _ _ _ f|exact g f)⟩
  |halt x w'=>cases x<;>simp only[Oper.uponIn]at hh |- <;>first|exact hh|exact hq _ _ _ hh
 rename_i hw;simp only[hw]at hh;exact hh
theorem yE{n0:Nat}{L:Array Bool->Act->World->Prop}(hq:∀e a w,Q e a w->Q' e a w):∀(f:Nat) (listed:Array Bool) (a:Act) (w:World),jQ F n P Mr md ops Q n0 L f listed a w->jQ F n P Mr md ops Q' n0 L f listed a w
 |0,listed,a,w,h=>h
 |f+1,listed,a,w,h=>⟨h.1,fun i hi=>⟨(h.2 i hi).1,Jz hq (wpOpIn_mono (fun a' w' h'=>⟨h'.1,yE hq f _ a' w' h'.2⟩) (h.2 i hi).2)⟩⟩
theorem WB{Q:Exit->Act->World->Prop}:∀e a w,cu Q e a w->Q e a w:=fun e a w h=>by cases e<;>first|exact h|exact h.elim
theorem iF(Mr:List Nat){id:Nat}{a:Act}(n0 g:Nat)(ord:List Nat)(hm:P.follows .mixedOrders=true)(hok:FM ops n0 ord=true)(hg:ops.size-n0=g)
 (h:jH F n P Mr ops (cu Q) (fun a' w'=>wpOpsIn F n P ops Q (List.range' n0 g) a' w') ord a w.drew):(Code.region id ops true).wpIn F n P Q a w:=by
 subst hg;simp only[FM,cS,ef]at hok;obtain⟨⟨⟨⟨⟨⟨f,i⟩,h3⟩,h4⟩,h5⟩,h6⟩,h7⟩:=hok;have p:HeadInv .any ops n0 (Array.replicate ops.size false):=⟨po,fun j s _ r=>(by rw[getD_replicate_false]at r;cases r),fun t _ X=>by simp[X]⟩;have e:=lQ (F:=F) (n:=n) (P:=P) (md:=.any) (Q:=cu Q) f i (fun d v c a w h=>BU d v c a w h) h3 ord _ a _ p h4 h;rw[h5]at e;refine wpIn_region_any hm ?_;have:=iK (g:=ops.size-n0) (fun l a w r=>by obtain⟨rfl,o⟩:=r;exact iT _ _ _ a w h7 o) _ _ _ _ (yE WB _ _ _ _ e)
 rwa [show n0+(ops.size-n0)=ops.size by omega]at this
end
section
attribute [local go_sem] cX
structure F4(w W:World)(na nb:Bool)(va vb:Value):Prop where
 a0:W.cell? ⟨w,0,none⟩=some (.bool na)
 a1:W.cell? ⟨w,1,none⟩=some va
 b0:W.cell? ⟨w+1,0,none⟩=some (.bool nb)
 b1:W.cell? ⟨w+1,1,none⟩=some vb
 x0:W.cell? ⟨w+1+1,0,none⟩=some (.bool false)
 x1:W.cell? ⟨w+1+1,1,none⟩=some (.slice none 0 0)
 e0:W.cell? ⟨w+1+1+1,0,none⟩=some (.int .i64 0)
 f0:W.frozen? ⟨w+1+1,0,none⟩=false
 f1:W.frozen? ⟨w+1+1,1,none⟩=false
 fe:W.frozen? ⟨w+1+1+1,0,none⟩=false
 bl:Below w w W
 sz:w.heap.size+4<=W.heap.size
theorem F4.go(h:F4 w W na nb va vb)(hb:Below W W W'):F4 w W' na nb va vb:=by have hs:=h.sz;have c:∀(k o:Nat) (u:Value),k<w.heap.size+4->W.cell? ⟨k,o,none⟩=some u->W'.cell? ⟨k,o,none⟩=some u:=fun k o u g e=>(hb.cell (p:=⟨k,o,none⟩) (show k<_ by omega)).trans e;have f:∀(k o:Nat),k<w.heap.size+4->W.frozen? ⟨k,o,none⟩=false->W'.frozen? ⟨k,o,none⟩=false:=fun k o g e=>(hb.frozen (p:=⟨k,o,none⟩) (show k<_ by omega)).trans e;exact⟨c _ _ _ pj h.a0,c _ _ _ pj h.a1,c _ _ _ pj h.b0,c _ _ _ pj h.b1,c _ _ _ pj h.x0,c _ _ _ pj h.x1,c _ _ _ pj h.e0,f _ _ pj h.f0,f _ _ pj h.f1,f _ _ pj h.fe,h.bl.trans (hb.mono h.bl.size),by have:=hb.size;omega⟩
theorem F4.start(w:World)(na nb:Bool)(va vb:Value)(ha:va.cells=#[va])(hb:vb.cells=#[vb]):
 F4 w ((((w.alloc (.cells #[na,va] 46)).alloc (.cells #[nb,vb] 46)).alloc (.cells #[false,.slice none 0 0] 46)).alloc (.cells #[.int .i64 0] 32)) na nb va vb:=by
 refine⟨pB,pB,pB,pB,pB,pB,pB,pB,pB,pB,by exact bel,po⟩
theorem Sl.QF(hM:b_ M w){n:Nat}{la lb:List Int}(h1:Sl Int w M A n c la)(h2:Sl Int w M B m d lb):
 Sl lG (w.alloc (.cells #[na,.slice A n c,nb,.slice B m d] 46)) M (some ⟨w,0,none⟩) 2 2 [(na,la),(nb,lb)]:=by
 have hb:Below w w (w.alloc (.cells #[na,.slice A n c,nb,.slice B m d] 46)):=by exact bel
 have g:w.heap.size∉M:=fun e=>by have:=hM _ e;omega
 refine⟨rfl,bj _,by simp[jG],pj,.inr ⟨w,0,rfl,fun k x f=>?_⟩⟩
 match k,f with
 |0,f=>cases f;exact⟨[na,.slice A n c],⟨[na], [.slice A n c],rfl,rfl,A,n,c,rfl,h1.keep (bq hb M)⟩,g,fun j u p=>by
   match j,p with
   |0,p=>cases p;simp[go_sem]
   |1,p=>cases p;simp[go_sem]⟩
 |1,f=>cases f;exact⟨[nb,.slice B m d],⟨[nb], [.slice B m d],rfl,rfl,B,m,d,rfl,h2.keep (bq hb M)⟩,g,fun j u p=>by
   match j,p with
   |0,p=>cases p;simp[go_sem,show Rep.sz lG=2 from rfl]
   |1,p=>cases p;simp[go_sem,show Rep.sz lG=2 from rfl]⟩
theorem WC(hM:b_ M w)(ha:ZV w M va a)(hb:ZV w M vb b)(fa:fits a=true)(fb:fits b=true):
 Calls prog 95 #[va,vb] w (ZR w M (a*b)):=by
 refine wid ?_;obtain⟨A,n,c,rfl,hx⟩:=ha;obtain⟨B,m,d,rfl,hy⟩:=hb;have hn:n<=2048:=by have h:=cW fa;rw[hx.eu]at h;exact h
 have hm:m<=2048:=by have h:=cW fb;rw[hy.eu]at h;exact h
 obtain⟨na,J⟩:=aC (aG a);obtain⟨nb,L⟩:=aC (aG b);have Y:gJ (na !=nb) (a.natAbs*b.natAbs)=a*b:=by rw[<-J,<-L];exact Yy a b
 rw[J,L];obtain⟨W1,ag⟩:=aC ((((w.alloc (.cells #[na,.slice A n c] 46)).alloc (.cells #[nb,.slice B m d] 46)).alloc (.cells #[false,.slice none 0 0] 46)).alloc (.cells #[.int .i64 0] 32));have F1:F4 w W1 na nb (.slice A n c) (.slice B m d):=by rw[<-ag];exact F4.start w na nb _ _ rfl rfl
 have ab:=((hx.more (b:=w+1+1+1) pj).more (b:=w+1+1) pj).keep (bq F1.bl _);have ac:=((hy.more (b:=w+1+1+1) pj).more (b:=w+1+1) pj).keep (bq F1.bl _);have V:b_ ((w.heap.size+1+1)::(w.heap.size+1+1+1)::M) W1:=fun k D=>by
  have:=F1.sz;simp only[cD]at D;rcases D with rfl|rfl|D;·omega
  ·omega
  have:=hM k D;omega
 have X:=fB ab ac V;have F:=Hd F1;have HZ:=Hd2 J L;have HF:=Hd2 fa fb;have e0:=F1.a0;have e1:=F1.a1;have e2:=F1.b0;have e3:=F1.b1;have SB:Sl lG (W1.alloc (.cells #[na,.slice A n c,nb,.slice B m d] 46)) ((w.heap.size+1+1)::(w.heap.size+1+1+1)::M) (some ⟨W1,0,none⟩) 2 2 ([a,b].map jk):=by
  have e: [a,b].map jk= [(na,ints (bG a)),(nb,ints (bG b))]:=by simp[jk,J,L]
  rw[e];exact Sl.QF V ab ac
 have yU:=Hd SB;clear hx hy hM ab ac V F1 J L fa fb SB;refine qj func95 rfl ntmps95 ?_;gi_wp2_with (refine Cl 97 (iR _ 2 2 [a,b] _ yU.out (by simp[HF.out.1,HF.out.2])) ?_;rintro e w2 ⟨rfl,ae⟩;have r:Below W1 W1 w2:=((bL W1 W1).alloc pD (.cells #[na,.slice A n c,nb,.slice B m d] 46)).trans (ae.mono po);have s:=F.out.go r;have v0:=ah s.a0;have v1:=ah s.a1;have v2:=ah s.b0;have v3:=ah s.b1;have g:=Hd2 s r;clear ae r s)
 refine iF [] 10 3 [0,1,2,3,4,5,6,7,8,9] pk pk rfl ?_;refine eH ?_;refine aH fun K j=>aA rfl rfl wy fun t o=>?_;gi_wp2;refine Cm (Wh (x:=a.natAbs) (y:=b.natAbs) (X.v.le (w':=w2.drew) g.u.size) ((X.a.go g.u).keep (cG _ _).drew) ((X.b.go g.u).keep (cG _ _).drew) pj pj) ?_;rintro e w3 ⟨A3,n3,c3,rfl,af,r⟩;have R:=Hd2 af r;clear af;refine o _ _ ⟨?_,j _ _ ?_⟩;clear o t j K;·exact bq r []
 refine lit ?_;clear r v0 v1 v2 v3;refine aK ?_;have F3:=(show F4 w w2.drew na nb (.slice A n c) (.slice B m d)from⟨g.a.a0,g.a.a1,g.a.b0,g.a.b1,g.a.x0,g.a.x1,g.a.e0,g.a.f0,g.a.f1,g.a.fe,g.a.bl.drew,g.a.sz⟩).go R.u;have ad:=Hd F3;have C9:b_ ((w.heap.size+1+1)::(w.heap.size+1+1+1)::M) w3:=X.v.le (cF g.u.size R.u.size);clear F3;cases C:fits (a*b);·have Z:=Hd2 (Jw C) (Jy C);refine uj fun K j=>?_;refine oP rfl ?_ (fun t o=>?_);(focus exact wy);gi_wp2;rw[show(!na==nb)=(na !=nb)from by cases na<;>cases nb<;>rfl];refine Cm (QE (v:=a.natAbs*b.natAbs) R.a (aO _) (bI _) (by rw[Y];exact C)) ?_;rintro e w4 ⟨rfl,hb4⟩;have i:=ad.out.go hb4;refine eS (f:=96) (args:=#[.pointer (some ⟨w+1+1+1,0,none⟩)]) po po pB (fun _ _=>bO) ?_;refine(Ef ⟨w+1+1+1,0,none⟩ 2 0 [] _ i.e0 i.fe).mono ?_;rintro e u' ai ⟨rfl,rfl,rfl⟩;have G:=i.x0;have H:=i.x1;have I:=i.e0;refine⟨.tuple #[.agg #[false,.slice none 0 0],.int .i64 2],?_,.agg #[false,.slice none 0 0],by rw[Z.a],by rw[Z.u];exact ZV.zero _ _,i.bl.setCell (p:=⟨w+1+1+1,0,none⟩) px _⟩;simp[results,results95,go_sem,G,H,I]
 ·have Z:=Hd2 (nJ C) (nK C);refine uj fun K j=>?_;refine oP rfl ?_ (fun t o=>?_);(focus exact wy);gi_wp2;rw[show(!na==nb)=(na !=nb)from by cases na<;>cases nb<;>rfl];refine Cm (Wv (v:=a.natAbs*b.natAbs) C9 R.a (aO _) (bI _) (by rw[Y];exact C)) ?_;rintro e w4 ⟨u,rfl,⟨O,T,S,rfl,aa⟩,hb4⟩;rw[Y]at aa |-;have i:=ad.out.go hb4;have H4:=Hd2 aa i;have G:=i.x0;have H:=i.x1;have I:=i.e0;have d0:=i.f0;have d1:=i.f1;have d2:=i.fe;clear aa i hb4;refine o _ _ (j _ _ ?_);clear o t j K;refine lit ?_;refine jW fun K j t o=>?_;gi_wp2;refine jW fun K j t o=>?_;gi_wp2;refine et _ ?_;gi_wp2;obtain⟨N,E⟩:=aC (((w4.setCell ⟨w+1+1,0,none⟩ (.bool (aG (a*b)))).setCell ⟨w+1+1,1,none⟩ (.slice O T S)).setCell ⟨w+1+1+1,0,none⟩ (.int .i64 0));have kF:Keeps ((w.heap.size+1+1)::(w.heap.size+1+1+1)::M) w4 N:=by
   rw[<-E];exact(((cG _ _).setCell (p:=⟨w+1+1,0,none⟩) (.inl po) _).setCell (p:=⟨w+1+1,1,none⟩) (.inl po) _).setCell (p:=⟨w+1+1+1,0,none⟩) (.inl po) _
  have bF:Below w w N:=by rw[<-E];exact((H4.u.bl.setCell (p:=⟨w+1+1,0,none⟩) px _).setCell (p:=⟨w+1+1,1,none⟩) px _).setCell (p:=⟨w+1+1+1,0,none⟩) px _
  have r0:N.cell? ⟨w+1+1,0,none⟩=some (.bool (aG (a*b))):=by rw[<-E];simp[go_sem,G,H,I]
  have r1:N.cell? ⟨w+1+1,1,none⟩=some (.slice O T S):=by rw[<-E];simp[go_sem,G,H,I]
  have r2:N.cell? ⟨w+1+1+1,0,none⟩=some (.int .i64 0):=by rw[<-E];simp[go_sem,G,H,I]
  refine eS (f:=96) (args:=#[.pointer (some ⟨w+1+1+1,0,none⟩)]) po po pB (fun _ _=>bO) ?_;rw[E];refine(iJ ⟨w+1+1+1,0,none⟩ _).mono ?_;rintro e u' ai ⟨rfl,rfl,rfl⟩;refine⟨.tuple #[.agg #[.bool (aG (a*b)),.slice O T S],.int .i64 0],?_,_,by rw[Z.a],by rw[Z.u];exact⟨O,T,S,rfl,(H4.a.keep kF).less (fun k D=>by simp[D])⟩,bF⟩;simp[results,results95,go_sem,r0,r1,r2]
structure F1(w W:World):Prop where
 x0:W.cell? ⟨w,0,none⟩=some (.bool false)
 x1:W.cell? ⟨w,1,none⟩=some (.slice none 0 0)
 f0:W.frozen? ⟨w,0,none⟩=false
 f1:W.frozen? ⟨w,1,none⟩=false
 bl:Below w w W
 sz:w.heap.size+1<=W.heap.size
theorem F1.go(h:F1 w W)(hb:Below W W W'):F1 w W':=by have hs:=h.sz;exact⟨(hb.cell (p:=⟨w,0,none⟩) (show w.heap.size<_ by omega)).trans h.x0,(hb.cell (p:=⟨w,1,none⟩) (show w.heap.size<_ by omega)).trans h.x1,(hb.frozen (p:=⟨w,0,none⟩) (show w.heap.size<_ by omega)).trans h.f0,(hb.frozen (p:=⟨w,1,none⟩) (show w.heap.size<_ by omega)).trans h.f1,h.bl.trans (hb.mono h.bl.size),by have:=hb.size;omega⟩
theorem F1.start(w:World):F1 w (w.alloc (.cells #[false,.slice none 0 0] 46)):=⟨pB,pB,pB,pB,by exact bel,po⟩
theorem F1.fin(h:F1 w W){n:Nat}(hz:ZV W (w.heap.size::M) (.agg #[q,.slice A n c]) z):
 ZV ((W.setCell ⟨w,0,none⟩ q).setCell ⟨w,1,none⟩ (.slice A n c)) M (.agg #[q,.slice A n c]) z/\Below w w ((W.setCell ⟨w,0,none⟩ q).setCell ⟨w,1,none⟩ (.slice A n c)):=by
 obtain⟨f,n',g,e,hs⟩:=hz;refine⟨⟨f,n',g,e,(hs.keep (((cG _ W).setCell (p:=⟨w,0,none⟩) (.inl po) _).setCell (p:=⟨w,1,none⟩) (.inl po) _)).less (fun k i=>bE _ i)⟩,?_⟩;exact(h.bl.setCell (p:=⟨w,0,none⟩) pD _).setCell (p:=⟨w,1,none⟩) pD _
theorem WE(h:aG a≠aG b)(fa:fits a=true)(fb:fits b=true):fits (a+b)=true:=by
 have f:¬((a<0)↔(b<0)):=fun e=>h (decide_eq_decide.2 e);rcases Int.lt_or_le a.natAbs b.natAbs with c|c;·exact jZ (show(a+b).natAbs<=b.natAbs by omega) fb
 exact jZ (show(a+b).natAbs<=a.natAbs by omega) fa
theorem zB{n:Nat}(hM:b_ M w)(hx:Sl Int w M A n c (ints (bC v)))(hz:gJ neg v=z)(hf:fits z=true):
 Calls prog 140 #[neg,.slice A n c] w fun e w'=>∃q A4 n4 c4,e=.returned (.agg #[.bool q,.slice A4 n4 c4])/\ZV w' M (.agg #[.bool q,.slice A4 n4 c4]) z/\Below w w w':=by
 subst hz;refine(Wv hM hx (aO _) (bI _) hf).mono ?_;rintro e w' ⟨u,rfl,⟨A4,n4,c4,rfl,hs⟩,hb⟩;exact⟨_,A4,n4,c4,rfl,⟨A4,n4,c4,rfl,hs⟩,hb⟩
theorem agZ{n:Nat}(hx:Sl Int w M A n c (ints (bC v)))(hz:gJ neg v=z)(hf:fits z=false):
 Calls prog 140 #[neg,.slice A n c] w fun e w'=>e=Wx 2/\Below w w w':=by
 subst hz;exact QE hx (aO _) (bI _) hf
theorem Eh{n:Nat}(hM:b_ M w)(hx:Sl Int w M A n c (ints (bG a)))(hy:Sl Int w M B m d (ints (bG b)))(fa:fits a=true)(fb:fits b=true):
 Calls prog 182 #[.bool (aG a),.slice A n c,.bool (aG b),.slice B m d] w fun e w'=>(fits (a+b)=true->∃q A4 n4 c4,e=.returned (.agg #[.bool q,.slice A4 n4 c4])/\ZV w' M (.agg #[.bool q,.slice A4 n4 c4]) (a+b))/\(fits (a+b)=false->e=Wx 2)/\Below w w w':=by
 refine wid ?_;have hn:n<=2048:=by have h:=cW fa;rw[hx.eu]at h;exact h
 have hm:m<=2048:=by have h:=cW fb;rw[hy.eu]at h;exact h
 have O:b_ (w.heap.size::M) (w.alloc (.cells #[false,.slice none 0 0] 46)):=fun k K=>by
  simp only[cD]at K;rcases K with rfl|K;·simp
  have:=hM k K;simp;omega
 obtain⟨W1,aa⟩:=aC (w.alloc (.cells #[false,.slice none 0 0] 46));have f1:F1 w W1:=by rw[<-aa];exact F1.start w
 rw[aa]at O;have X:=h_ ((hx.more (b:=w) pD).keep (bq f1.bl _)) ((hy.more (b:=w) pD).keep (bq f1.bl _)) O f1;have HF:=Hd2 fa fb;clear hx hy hM O f1;by_cases hs:aG a=aG b
 ·have r:=add_same hs;rw[<-hs];obtain⟨na,t⟩:=aC (aG a);rw[t]at r |-;have hq:(na==na)=true:=po;clear hs t fa fb;cases p:fits (a+b)
  ·have s:=Hd p;clear p;refine sH func182 rfl ntmps182 ?_;simp only[eh]
   gi_wp2_with (first
    |(refine Cl 140 (agZ (v:=a.natAbs+b.natAbs) G.out.1 r s.out) ?_;rintro e Z ⟨rfl,j⟩;have f:=Hd (G.out.2.go j);clear j)
    |(refine Cl 224 (LQ (x:=a.natAbs) (y:=b.natAbs) X.c X.a X.b pj pj) ?_;rintro e Y ⟨L,V,N,rfl,i,g⟩;have G:=Hd2 i (X.w.go g);clear i g)
    |fail)
   exact⟨(fun h=>by cases h),fun _=>rfl,f.out.bl⟩
  have s:=Hd p;clear p;refine sH func182 rfl ntmps182 ?_;simp only[eh]
  gi_wp2_with (first
   |(refine Cl 140 (zB (v:=a.natAbs+b.natAbs) (X.c.le G.v.size) G.out.1 r s.out) ?_;rintro e Z ⟨q,A4,n4,c4,rfl,o,j⟩;have f:=Hd2 (G.b.go j) o;have C:=f.a.x0;have D:=f.a.x1;have d0:=f.a.f0;have d1:=f.a.f1;clear j o)
   |(refine Cl 224 (LQ (x:=a.natAbs) (y:=b.natAbs) X.c X.a X.b pj pj) ?_;rintro e Y ⟨L,V,N,rfl,i,g⟩;have G:=fB i (X.w.go g) g;clear i g)
   |fail)
  exact Bo
 ·have p:=WE hs fa fb;rw[p];have s:=Hd p;obtain⟨na,t⟩:=aC (aG a);obtain⟨nb,R⟩:=aC (aG b);have i:aG b≠aG a:=fun e=>hs e.symm;have S:b.natAbs<=a.natAbs->gJ na (a.natAbs-b.natAbs)=a+b:=fun h=>by rw[<-t];exact Ht hs h
  have T:a.natAbs<=b.natAbs->gJ nb (b.natAbs-a.natAbs)=a+b:=fun h=>by rw[<-R,Int.add_comm];exact Ht i h
  rw[t,R]at hs |-;have hq:(na==nb)=false:=by simpa using hs
  clear hs t R fa fb i p;obtain⟨cz,H⟩:=aC (qK a.natAbs b.natAbs);have HC:=Hd H;by_cases ab:b.natAbs<=a.natAbs
  ·have r:=S ab;have hcn:0<=cz:=by
    rw[<-H];rcases lP b.natAbs a.natAbs with h|h;·rw[pJ h];decide
    rw[uM pj];decide
   clear H S T;refine sH func182 rfl ntmps182 ?_;simp only[eh]
   gi_wp2_with (first
    |(refine Cl 140 (zB (v:=a.natAbs-b.natAbs) (X.c.le G.v.size) G.out.1 r s.out) ?_;rintro e Z ⟨q,A4,n4,c4,rfl,o,j⟩;have f:=Hd2 (G.b.go j) o;have C:=f.a.x0;have D:=f.a.x1;have d0:=f.a.f0;have d1:=f.a.f1;clear j o)
    |(refine Cl 225 (LW (x:=a.natAbs) (y:=b.natAbs) (X.c.le HB.out.size) (X.a.go HB.out) (X.b.go HB.out) pj ab) ?_;rintro e Y ⟨L,V,N,rfl,i,g⟩;have G:=fB i ((X.w.go HB.out).go g) (HB.out.trans (g.mono HB.out.size));clear i g)
    |(refine Cl 98 (jo A B n c m d a.natAbs b.natAbs _ X.a X.b) ?_;rintro e w1 ⟨rfl,E⟩;rw[HC.out];have HB:=Hd E;clear E)
    |fail)
   exact Bo
  have r:=T pj;have hcn:¬0<=cz:=by rw[<-H,pI pj];decide
  clear H S T;refine sH func182 rfl ntmps182 ?_;simp only[eh]
  gi_wp2_with (first
   |(refine Cl 140 (zB (v:=b.natAbs-a.natAbs) (X.c.le G.v.size) G.out.1 r s.out) ?_;rintro e Z ⟨q,A4,n4,c4,rfl,o,j⟩;have f:=Hd2 (G.b.go j) o;have C:=f.a.x0;have D:=f.a.x1;have d0:=f.a.f0;have d1:=f.a.f1;clear j o)
   |(refine Cl 225 (LW (x:=b.natAbs) (y:=a.natAbs) (X.c.le HB.out.size) (X.b.go HB.out) (X.a.go HB.out) pj pj) ?_;rintro e Y ⟨L,V,N,rfl,i,g⟩;have G:=fB i ((X.w.go HB.out).go g) (HB.out.trans (g.mono HB.out.size));clear i g)
   |(refine Cl 98 (jo A B n c m d a.natAbs b.natAbs _ X.a X.b) ?_;rintro e w1 ⟨rfl,E⟩;rw[HC.out];have HB:=Hd E;clear E)
   |fail)
  exact Bo
theorem Ig{n:Nat}(hM:b_ M w)(hx:Sl Int w M A n c (ints (bG a)))(hy:Sl Int w M B m d (ints (bG b))):
 ∃W1:World,(((w.alloc (.cells #[.bool (aG a),.slice A n c] 46)).alloc (.cells #[.bool (aG b),.slice B m d] 46)).alloc (.cells #[false,.slice none 0 0] 46)).alloc (.cells #[.int .i64 0] 32)=W1/\
  F4 w W1 (aG a) (aG b) (.slice A n c) (.slice B m d)/\Sl Int W1 ((w.heap.size+1+1)::(w.heap.size+1+1+1)::M) A n c (ints (bG a))/\Sl Int W1 ((w.heap.size+1+1)::(w.heap.size+1+1+1)::M) B m d (ints (bG b))/\
  b_ ((w.heap.size+1+1)::(w.heap.size+1+1+1)::M) W1/\Sl lG (W1.alloc (.cells #[.bool (aG a),.slice A n c,.bool (aG b),.slice B m d] 46)) ((w.heap.size+1+1)::(w.heap.size+1+1+1)::M) (some ⟨W1,0,none⟩) 2 2 ([a,b].map jk):=by
 obtain⟨W1,g⟩:=aC ((((w.alloc (.cells #[.bool (aG a),.slice A n c] 46)).alloc (.cells #[.bool (aG b),.slice B m d] 46)).alloc (.cells #[false,.slice none 0 0] 46)).alloc (.cells #[.int .i64 0] 32));have F1:F4 w W1 (aG a) (aG b) (.slice A n c) (.slice B m d):=by rw[<-g];exact F4.start w _ _ _ _ rfl rfl
 have i:=((hx.more (b:=w+1+1+1) pj).more (b:=w+1+1) pj).keep (bq F1.bl _);have j:=((hy.more (b:=w+1+1+1) pj).more (b:=w+1+1) pj).keep (bq F1.bl _);have f:b_ ((w.heap.size+1+1)::(w.heap.size+1+1+1)::M) W1:=fun k e=>by
  have:=F1.sz;simp only[cD]at e;rcases e with rfl|rfl|e;·omega
  ·omega
  have:=hM k e;omega
 exact⟨W1,g,F1,i,j,f,Sl.QF f i j⟩
theorem F4.fin(h:F4 w w4 na nb va vb){n:Nat}(hz:ZV w4 ((w.heap.size+1+1)::(w.heap.size+1+1+1)::M) (.agg #[q,.slice A n c]) z):
 ∃wF,((w4.setCell ⟨w+1+1,0,none⟩ q).setCell ⟨w+1+1,1,none⟩ (.slice A n c)).setCell ⟨w+1+1+1,0,none⟩ (.int .i64 0)=wF/\wF.cell? ⟨w+1+1,0,none⟩=some (.bool q)/\wF.cell? ⟨w+1+1,1,none⟩=some (.slice A n c)/\wF.cell? ⟨w+1+1+1,0,none⟩=some (.int .i64 0)/\ZV wF M (.agg #[q,.slice A n c]) z/\Below w w wF:=by
 refine⟨_,rfl,?_,?_,?_,?_,?_⟩;·exact Oy
 ·exact Oy
 ·exact Oy
 ·obtain⟨i,n',j,e,hs⟩:=hz;exact⟨i,n',j,e,(hs.keep ((((cG _ _).setCell (p:=⟨w+1+1,0,none⟩) (.inl po) _).setCell (p:=⟨w+1+1,1,none⟩) (.inl po) _).setCell (p:=⟨w+1+1+1,0,none⟩) (.inl po) _)).less (fun k o=>by simp[o])⟩
 ·exact((h.bl.setCell (p:=⟨w+1+1,0,none⟩) px _).setCell (p:=⟨w+1+1,1,none⟩) px _).setCell (p:=⟨w+1+1+1,0,none⟩) px _
theorem WG(hM:b_ M w)(ha:ZV w M va a)(hb:ZV w M vb b)(fa:fits a=true)(fb:fits b=true):
 Calls prog 135 #[va,vb] w (ZR w M (a+b)):=by
 refine wid ?_;obtain⟨A,n,c,rfl,hx⟩:=ha;obtain⟨B,m,d,rfl,R⟩:=hb;obtain⟨W1,ac,F1,O,S,N,E⟩:=Ig hM hx R;have X:=fB O S N;have F:=Hd F1;have HF:=Hd2 fa fb;have e0:=F1.a0;have e1:=F1.a1;have e2:=F1.b0;have e3:=F1.b1;have V:=Hd E;clear hx R hM O S N F1 fa fb E;cases r:fits (a+b)
 ·have Z:=Hd2 (Jw r) (Jy r);have t:=Hd r;clear r;refine qj func135 rfl ntmps135 ?_
  gi_wp2_with (first
   |(refine Cl 182 (Eh (X.v.le o.u.size) (X.a.go o.u) (X.b.go o.u) HF.out.1 HF.out.2) ?_;rintro e w3 ⟨-,L,j⟩;obtain rfl:=L t.out;have g:=Hd (o.a.go j);clear j L)
   |(refine Cl 97 (iR _ 2 2 [a,b] _ V.out (by simp[HF.out.1,HF.out.2])) ?_;rintro e x ⟨rfl,s⟩;have j:Below W1 W1 x:=((bL W1 W1).alloc pD (.cells #[.bool (aG a),.slice A n c,.bool (aG b),.slice B m d] 46)).trans (s.mono po);have i:=F.out.go j;have v0:=i.a0;have v1:=i.a1;have v2:=i.b0;have v3:=i.b1;have o:=Hd2 i j;clear s j i)
   |fail)
  refine eS (f:=96) (args:=#[.pointer (some ⟨w+1+1+1,0,none⟩)]) po po pB (fun _ _=>bO) ?_;refine(Ef ⟨w+1+1+1,0,none⟩ 2 0 [] _ g.out.e0 g.out.fe).mono ?_;rintro e u' ab ⟨rfl,rfl,rfl⟩;have G:=g.out.x0;have H:=g.out.x1;have I:=g.out.e0;refine⟨.tuple #[.agg #[false,.slice none 0 0],.int .i64 2],?_,.agg #[false,.slice none 0 0],by rw[Z.a],by rw[Z.u];exact ZV.zero _ _,g.out.bl.setCell (p:=⟨w+1+1+1,0,none⟩) px _⟩;simp[results,results135,go_sem,G,H,I]
 ·have Z:=Hd2 (nJ r) (nK r);have t:=Hd r;clear r;refine qj func135 rfl ntmps135 ?_
  gi_wp2_with (first
   |(refine Cl 182 (Eh (X.v.le o.u.size) (X.a.go o.u) (X.b.go o.u) HF.out.1 HF.out.2) ?_;rintro e w3 ⟨K,-,j⟩;obtain⟨q,C,T,J,rfl,D⟩:=K t.out;have g:=Hd2 (o.a.go j) D;have G:=g.a.x0;have H:=g.a.x1;have I:=g.a.e0;have d0:=g.a.f0;have d1:=g.a.f1;have d2:=g.a.fe;clear j K D)
   |(refine Cl 97 (iR _ 2 2 [a,b] _ V.out (by simp[HF.out.1,HF.out.2])) ?_;rintro e x ⟨rfl,s⟩;have j:Below W1 W1 x:=((bL W1 W1).alloc pD (.cells #[.bool (aG a),.slice A n c,.bool (aG b),.slice B m d] 46)).trans (s.mono po);have i:=F.out.go j;have v0:=i.a0;have v1:=i.a1;have v2:=i.b0;have v3:=i.b1;have o:=Hd2 i j;clear s j i)
   |fail)
  obtain⟨wF,aa,r0,r1,r2,Y,bF⟩:=g.a.fin g.u;refine eS (f:=96) (args:=#[.pointer (some ⟨w+1+1+1,0,none⟩)]) po po pB (fun _ _=>bO) ?_;rw[aa];refine(iJ ⟨w+1+1+1,0,none⟩ _).mono ?_;rintro e u' ab ⟨rfl,rfl,rfl⟩;refine⟨.tuple #[.agg #[q,.slice C T J],.int .i64 0],?_,.agg #[q,.slice C T J],by rw[Z.a],by rw[Z.u];exact Y,bF⟩;simp[results,results135,go_sem,r0,r1,r2]
theorem Tn{n:Nat}(pe pq pr:Addr)(u:FrameMode)(w:World)(hc:w.cell? pe=some (.int .i64 0)):
 CallsDIn Fence.wide n prog 226 #[.pointer (some pe),.pointer (some pq),.pointer (some pr)] u w fun e u' w'=>u'=u/\(e=.returned (.tuple #[])/\w'=w):=by
 refine callsDIn_of_wp func226 rfl trivial ?_;simp only[ntmps226,lO,eh,gD,Nat.reduceAdd,Nat.reduceSub,gR,gS,i_,fp,df,d_];gi_wp2;go_end0;exact⟨rfl,rfl⟩
structure F5(w W:World)(na nb:Bool)(va vb:Value):Prop where
 a0:W.cell? ⟨w,0,none⟩=some (.bool na)
 a1:W.cell? ⟨w,1,none⟩=some va
 b0:W.cell? ⟨w+1,0,none⟩=some (.bool nb)
 b1:W.cell? ⟨w+1,1,none⟩=some vb
 x0:W.cell? ⟨w+1+1,0,none⟩=some (.bool false)
 x1:W.cell? ⟨w+1+1,1,none⟩=some (.slice none 0 0)
 y0:W.cell? ⟨w+1+1+1,0,none⟩=some (.bool false)
 y1:W.cell? ⟨w+1+1+1,1,none⟩=some (.slice none 0 0)
 e0:W.cell? ⟨w+1+1+1+1,0,none⟩=some (.int .i64 0)
 f0:W.frozen? ⟨w+1+1,0,none⟩=false
 f1:W.frozen? ⟨w+1+1,1,none⟩=false
 g0:W.frozen? ⟨w+1+1+1,0,none⟩=false
 g1:W.frozen? ⟨w+1+1+1,1,none⟩=false
 fe:W.frozen? ⟨w+1+1+1+1,0,none⟩=false
 bl:Below w w W
 sz:w.heap.size+5<=W.heap.size
theorem F5.go(h:F5 w W na nb va vb)(hb:Below W W W'):F5 w W' na nb va vb:=by have hs:=h.sz;have c:∀(k o:Nat) (u:Value),k<w.heap.size+5->W.cell? ⟨k,o,none⟩=some u->W'.cell? ⟨k,o,none⟩=some u:=fun k o u g e=>(hb.cell (p:=⟨k,o,none⟩) (show k<_ by omega)).trans e;have f:∀(k o:Nat),k<w.heap.size+5->W.frozen? ⟨k,o,none⟩=false->W'.frozen? ⟨k,o,none⟩=false:=fun k o g e=>(hb.frozen (p:=⟨k,o,none⟩) (show k<_ by omega)).trans e;exact⟨c _ _ _ pj h.a0,c _ _ _ pj h.a1,c _ _ _ pj h.b0,c _ _ _ pj h.b1,c _ _ _ pj h.x0,c _ _ _ pj h.x1,c _ _ _ pj h.y0,c _ _ _ pj h.y1,c _ _ _ pj h.e0,f _ _ pj h.f0,f _ _ pj h.f1,f _ _ pj h.g0,f _ _ pj h.g1,f _ _ pj h.fe,h.bl.trans (hb.mono h.bl.size),by have:=hb.size;omega⟩
theorem F5.start(w:World)(na nb:Bool)(va vb:Value)(ha:va.cells=#[va])(hb:vb.cells=#[vb]):
 F5 w (((((w.alloc (.cells #[na,va] 46)).alloc (.cells #[nb,vb] 46)).alloc (.cells #[false,.slice none 0 0] 46)).alloc (.cells #[false,.slice none 0 0] 46)).alloc (.cells #[.int .i64 0] 32)) na nb va vb:=
 ⟨pB,pB,pB,pB,pB,pB,pB,pB,pB,pB,pB,pB,pB,pB,by exact bel,po⟩
theorem Tq:fits 0=true:=by simp[fits,bG,bU]
theorem F5.fin{MM:List Nat}(h:F5 w w4 na nb va vb){r:Bool}{n:Nat}{y:Int}(hz:ZV w4 MM (.agg #[q,.slice A n c]) z)(hy:ZV w4 MM (.agg #[r,.slice B m d]) y)
 (hM:∀k,k∈M->k∈MM) (hX:w.heap.size+1+1∈MM/\w.heap.size+1+1+1∈MM/\w.heap.size+1+1+1+1∈MM):
 ∃wF,((((w4.setCell ⟨w+1+1,0,none⟩ q).setCell ⟨w+1+1,1,none⟩ (.slice A n c)).setCell ⟨w+1+1+1,0,none⟩ r).setCell ⟨w+1+1+1,1,none⟩ (.slice B m d)).setCell ⟨w+1+1+1+1,0,none⟩ (.int .i64 0)=wF/\
  wF.cell? ⟨w+1+1,0,none⟩=some (.bool q)/\wF.cell? ⟨w+1+1,1,none⟩=some (.slice A n c)/\wF.cell? ⟨w+1+1+1,0,none⟩=some (.bool r)/\wF.cell? ⟨w+1+1+1,1,none⟩=some (.slice B m d)/\
  wF.cell? ⟨w+1+1+1+1,0,none⟩=some (.int .i64 0)/\ZV wF M (.agg #[q,.slice A n c]) z/\ZV wF M (.agg #[r,.slice B m d]) y/\Below w w wF:=by
 have f:=h.x0;have G:=h.x1;have g:=h.y0;have i:=h.y1;have j:=h.e0;have t:=((((((cG MM w4).setCell (p:=⟨w+1+1,0,none⟩) (.inl hX.1) q).setCell (p:=⟨w+1+1,1,none⟩) (.inl hX.1) (.slice A n c)).setCell (p:=⟨w+1+1+1,0,none⟩) (.inl hX.2.1) r).setCell (p:=⟨w+1+1+1,1,none⟩) (.inl hX.2.1) (.slice B m d)).setCell (p:=⟨w+1+1+1+1,0,none⟩) (.inl hX.2.2) (.int .i64 0));refine⟨_,rfl,?_,?_,?_,?_,?_,?_,?_,?_⟩;·simp[go_sem,f,G,g,i,j]
 ·simp[go_sem,f,G,g,i,j]
 ·simp[go_sem,f,G,g,i,j]
 ·simp[go_sem,f,G,g,i,j]
 ·simp[go_sem,f,G,g,i,j]
 ·obtain⟨o,n',s,e,hs⟩:=hz;exact⟨o,n',s,e,(hs.keep t).less hM⟩
 ·obtain⟨o,n',s,e,hs⟩:=hy;exact⟨o,n',s,e,(hs.keep t).less hM⟩
 ·have b:=h.bl;exact((((b.setCell (p:=⟨w+1+1,0,none⟩) px _).setCell (p:=⟨w+1+1,1,none⟩) px _).setCell (p:=⟨w+1+1+1,0,none⟩) px _).setCell (p:=⟨w+1+1+1,1,none⟩) px _).setCell (p:=⟨w+1+1+1+1,0,none⟩) px _
theorem L9(hM:b_ M w)(ha:ZV w M va a)(hb:ZV w M vb b)(fa:fits a=true)(fb:fits b=true)(hp:0<b)(h0:a.natAbs%b.natAbs=0):
 Calls prog 183 #[va,vb] w fun e w'=>∃u v,e=.returned (.tuple #[u,v,.int .i64 0])/\ZV w' M u (a/b)/\ZV w' M v 0/\Below w w w':=by
 refine wid ?_;obtain⟨A,n,c,rfl,hx⟩:=ha;obtain⟨B,m,d,rfl,L⟩:=hb;have hn:n<=2048:=by have h:=cW fa;rw[hx.eu]at h;exact h
 have J:=L.eu;have ai:m≠0:=by intro e;rw[e]at J;have:=jO.1 (de.1 J);omega
 have E:aG b=false:=cE pj;have D:=(aew (a:=a) (b:=b) (.inl h0) pj).1;have Z:fits (a/b)=true:=by
  refine jZ ?_ fa;rw[<-D];have:(gJ (aG a !=aG b) (a.natAbs/b.natAbs)).natAbs=a.natAbs/b.natAbs:=by generalize a.natAbs/b.natAbs=k;unfold gJ;split<;>omega
  rw[this];exact oT _ _
 rw[E]at D;have af:0<b.natAbs:=pj;let MM:=(w.heap.size+1+1)::(w.heap.size+1+1+1)::(w.heap.size+1+1+1+1)::M;obtain⟨W1,ac⟩:=aC (((((w.alloc (.cells #[.bool (aG a),.slice A n c] 46)).alloc (.cells #[false,.slice B m d] 46)).alloc (.cells #[false,.slice none 0 0] 46)).alloc (.cells #[false,.slice none 0 0] 46)).alloc (.cells #[.int .i64 0] 32));have F1:F5 w W1 (aG a) false (.slice A n c) (.slice B m d):=by rw[<-ac];exact F5.start w _ _ _ _ rfl rfl
 have K:Sl Int W1 MM A n c (ints (bG a)):=(((hx.more (b:=w+1+1+1+1) pj).more (b:=w+1+1+1) pj).more (b:=w+1+1) pj).keep (bq F1.bl _);have N:Sl Int W1 MM B m d (ints (bG b)):=(((L.more (b:=w+1+1+1+1) pj).more (b:=w+1+1+1) pj).more (b:=w+1+1) pj).keep (bq F1.bl _);have H:b_ MM W1:=fun k r=>by
  have:=F1.sz;simp only[MM,cD]at r;rcases r with rfl|rfl|rfl|r;·omega
  ·omega
  ·omega
  have:=hM k r;omega
 have T:=Sl.QF (na:=aG a) (nb:=false) H K N;have yU:Hid (Sl lG (W1.alloc (.cells #[.bool (aG a),.slice A n c,false,.slice B m d] 46)) MM (some ⟨W1,0,none⟩) 2 2 ([a,b].map jk)):=by
  have e: [a,b].map jk= [(aG a,ints (bG a)),(false,ints (bG b))]:=by simp[jk,E]
  rw[e];exact T
 have X:=fB K N H;have F:=Hd F1;have HF:=oK fa fb Z D h0;have QG:=Hd (show ∀k,k∈M->k∈MM from fun k r=>by simp[MM,r]);have ab:=Hd (show w.heap.size+1+1∈MM/\w.heap.size+1+1+1∈MM/\w.heap.size+1+1+1+1∈MM from by simp[MM]);have e0:=F1.a0;have e1:=F1.a1;have e2:=F1.b0;have e3:=F1.b1;have aj:∀(fn:Fn) (first cap:Array Value) (w:World),(Instr.makeFunc fn first cap).run prog w=.ok (.func fn first cap) w:=fun _ _ _ _=>rfl
 clear_value MM
 rw[E];clear hx L hM K N H F1 fa fb T Z D h0 E J;generalize hna:aG a=na at*
 have aa:gJ na (a.natAbs/b.natAbs)=a/b:=by have:=HF.d;rwa [show(na !=false)=na from by cases na<;>rfl]at this
 have HR:=Hd aa;have FZ:=Hd Tq;clear aa hna;cases na;all_goals(
 refine qj func183 rfl ntmps183 ?_
 gi_wp2_with (first
  |(refine⟨bO,?_⟩;gi_at_call 140;have g:=t.out;clear g;refine Cn (zB (z:=0) (v:=0) (neg:=false) ((X.v.le s.w.size).le t.v.size) (s.c.go t.v) rfl FZ.out) ?_;rintro e w5 ⟨q5,A5,n5,c5,rfl,r_,I⟩;have i:=t.a.go I;have k0:=i.x0;have k1:=i.x1;have k2:=i.y0;have k3:=i.y1;have k4:=i.e0;have d0:=i.f0;have d1:=i.f1;have d2:=i.g0;have d3:=i.g1;have d4:=i.fe;have G:=fB i (t.b.go I) r_;clear r_ I i)
  |(refine Cl 140 (zB (v:=a.natAbs/b.natAbs) (X.v.le s.w.size) s.b HR.out HF.c) ?_;rintro e w4 ⟨q4,A4,n4,c4,rfl,R,hb4⟩;have S:=s.a.go hb4;have t:=fB S R hb4;clear R hb4 S)
  |(refine Cl 185 (L8 (x:=a.natAbs) (y:=b.natAbs) (X.v.le p.u.size) (X.a.go p.u) (X.b.go p.u) pj af) ?_;rintro e w3 ⟨O,q,cO,O2,q2,Z7,rfl,V,C,j⟩;have ad:q2=0:=by
     have hl:=C.eu;rw[HF.x,bU]at hl;exact hl.symm
    rw[HF.x]at C;subst ad;have F3:=p.a.go j;have u0:=F3.a0;have u1:=F3.b0;have s:=h_ F3 V C (p.u.trans (j.mono p.u.size));clear V C j F3)
  |(refine Cl 97 (iR _ 2 2 [a,b] _ yU.out (by simp[HF.out.1,HF.b])) ?_;rintro e w2 ⟨rfl,Y⟩;have j:Below W1 W1 w2:=((bL W1 W1).alloc pD _).trans (Y.mono po);have o:=F.out.go j;have v0:=o.a0;have v1:=o.a1;have v2:=o.b0;have v3:=o.b1;have p:=Hd2 o j;clear Y j o)
  |fail)
 clear k0 k1 k2 k3 k4 d0 d1 d2 d3 d4;obtain⟨wF,ae,r0,r1,r2,r3,r4,WH,ag,bF⟩:=G.a.fin G.b G.v QG.out ab.out;refine eS (f:=96) (args:=#[.pointer (some ⟨w+1+1+1+1,0,none⟩)]) po po pB (fun _ _=>bO) ?_;rw[ae];refine(iJ ⟨w+1+1+1+1,0,none⟩ _).mono ?_;rintro e u' ah ⟨rfl,rfl,rfl⟩;refine eS (f:=226) (args:=#[.pointer (some ⟨w+1+1+1+1,0,none⟩),.pointer (some ⟨w+1+1,0,none⟩),.pointer (some ⟨w+1+1+1,0,none⟩)]) (by simp[settle]) (by simp[settle]) pB (fun _ _=>bO) ?_;refine(Tn _ _ _ _ _ r4).mono ?_;rintro e u' ah ⟨rfl,rfl,rfl⟩;refine⟨.tuple #[.agg #[q4,.slice A4 n4 c4],.agg #[q5,.slice A5 n5 c5],.int .i64 0],?_,_,_,rfl,WH,ag,bF⟩;simp[results,results183,go_sem,r0,r1,r2,r3,r4])
end
