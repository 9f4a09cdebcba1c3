/- Lemmas. -/
import Derived.Test.YtfdmnogfflcllaaGreatDoorM44
set_option linter.unusedVariables false
set_option linter.unusedSimpArgs false
set_option maxRecDepth 100000
set_option maxHeartbeats 20000000
namespace Go.Proofs.YtfdmnogfflcllaaGreatDoor
open Go.Proofs.Tryz Go.RowKit Go.Shelf
variable {e:TypeId}{M:List Nat}{base n:Nat}{v:Value}{s:dK}{l:List Int}
section
attribute [local go_sem] cK
def Flat(α:Type) [Rep α]:Prop:=∀{w:World}{M:List Nat}{x:α}{es:List Value},Rep.rd w M x es->∀(w':World) (M':List Nat),Rep.rd w' M' x es
theorem abf:Flat dK:=fun h _ _=>h
theorem ac2:Flat (Int×Int):=fun h w' M'=>by obtain⟨a,b,e,h1,h2⟩:=h;exact⟨a,b,e,h1,h2⟩
instance:kJ (Int×Int):=⟨by
 intro w M x cs h u hu;rw[afW h]at hu;simp at hu;rcases hu with rfl|rfl<;>rfl⟩
theorem bD.flat{α:Type} [kJ α] (hf:Flat α){w w':World}{xs:List α}(h:bD α e w M base v n xs)(ho:∀g,v.ownBlock=some g->w'.heap[g]?=w.heap[g]?)(M':List Nat):bD α e w' M' base v n xs:=by obtain⟨cs,f,j⟩:=h.ex;exact⟨h.len,cs,qp f (fun g O _=>ho g O),fun k x hx=>by obtain⟨d,a,b⟩:=j k x hx;exact⟨d,hf a _ _,b⟩⟩
theorem aaZ{α:Type} [kJ α] {w:World}{xs:List α}(h:bD α e w M base v n xs)(hn:n<=1000000000)(hd:∀k,k∈M->k∉bP v):∃A c,v=.slice A n c/\Sl α w M A n c xs:=by
 obtain⟨cs,f,p⟩:=h.ex;rcases f.2 with⟨rfl,rfl⟩|⟨g,m,I,rfl,hb,y,C,t,K,G⟩;·exact Xn
 refine⟨_,m,rfl,h.len,C,by simpa[jG,maxLen]using t,oE,.inr ⟨g,0,rfl,fun k x z=>?_⟩⟩;obtain⟨o,a,b⟩:=p k x z;refine⟨o,od a (fun q F=>cL _ F),fun B=>hd g B (bJ.2 rfl),fun j u H=>?_⟩;have d:=b j u H;have J:=(bj.1 d).1;have:=f.1;rw[<-G,eI oE,iS]at d;simp[World.cell?,y,d]
theorem adK:(prog.info? 173).map (fun i=>(i.zero,i.size,i.bytes))=some (some (.agg #[.int .i64 0,.int .i64 0]),2,16):=oF
theorem adl:iU 173 (Rep.sz (Int×Int)):=iU.mk' adK rfl oE
theorem ae2:(prog.info? 26).map (fun i=>(i.zero,i.size,i.bytes))=some (some (.slice none 0 0),1,24):=oF
theorem acO:iU 26 (Rep.sz dK):=iU.mk' ae2 rfl oE
theorem aD.snoc{W:World}{N:List Nat}{hs:List dK}{x:List (List Int)}{b:Nat}(h:aD W N hs x)(hA:s.A=some ⟨b,0,none⟩)(hb:b∉N)(hn:s.n=l.length)(hc:s.n<=s.c)(hco:jG s.c)(hl:s.n<=1000)
 (hr:∀(k:Nat) (m:Int),l[k]?=some m->W.cell? ⟨b,k,none⟩=some (.int .i64 m)/\W.frozen? ⟨b,k,none⟩=false/\i64 m):aD W (b::N) (hs++ [s]) (x++ [l]):=by
 have t:∀{i:Nat}{a:dK},(hs++ [s])[i]?=some a->hs[i]?=some a\/(i=hs.length/\a=s):=fun{i a} hi=>by
  by_cases z:i<hs.length;·rw[di z]at hi;exact .inl hi
  rw[cM oE]at hi;have:=(bj.1 hi).1;simp at this;refine .inr ⟨oE,?_⟩;rw[show i-hs.length=0 by omega]at hi;cases hi;rfl
 refine⟨by simp[h.len],fun i a B f g=>?_,fun i j s1 s2 p f g G o=>?_⟩
 ·rcases t f with f|⟨rfl,rfl⟩;·rw[di (by rw[<-h.len];exact(bj.1 f).1)]at g;obtain⟨b1,d,P,q⟩:=h.row i a B f g;exact⟨b1,d,bz _ P,q⟩
  rw[h.len,cM pc,ga]at g;cases g;exact⟨b,hA,cd,hn,hc,hco,hl,hr⟩
 ·have u:∀{i:Nat}{a:dK},hs[i]?=some a->a.A=some ⟨p,0,none⟩->p∈N:=fun{i a} hi e=>by
    obtain⟨b1,d,P,-⟩:=h.row i a _ hi (bX (by rw[<-h.len];exact(bj.1 hi).1));rw[e]at d;cases d;exact P
  rcases t f with d|⟨d,q⟩<;>rcases t g with P|⟨P,y⟩
  ·exact h.dis i j s1 s2 p d P G o
  ·rw[y,hA]at o;cases o;exact absurd (u d G) hb
  ·rw[q,hA]at G;cases G;exact absurd (u P o) hb
  rw[d,P]
structure CmI(w:World)(E D T:List Value)(vh vp:Value)(N:List Nat)(hs:List dK)(ps:List (Int×Int))(xs:List (List Int))(W:World):Prop where
 oh:bD dK 26 W [] (w.heap.size+4) vh hs.length hs
 op:bD (Int×Int) 173 W [] (w.heap.size+4) vp ps.length ps
 fr:Fr w W [(w.heap.size,E),(w.heap.size+1,D),(w+2, [vp]),(w+3,vh::T)]
 sz:w.heap.size+4<=W.heap.size
 rows:aD W N hs xs
 nb:∀q,q∈N->w.heap.size+4<=q/\q<W.heap.size
 hp:∀g,vh.ownBlock=some g->vp.ownBlock≠some g
 hN:∀g,vh.ownBlock=some g->g∉N
 pN:∀g,vp.ownBlock=some g->g∉N
section
variable {w:World}{E D T:List Value}{vh vp:Value}{N:List Nat}{hs:List dK}{ps:List (Int×Int)}{xs:List (List Int)}{W U:World}
theorem CmI.nil(h:Fr w W [(w.heap.size,E),(w.heap.size+1,D),(w+2, [.slice none 0 0]),(w.heap.size+3,.slice none 0 0::T)]):CmI w E D T (.slice none 0 0) (.slice none 0 0) [] [] [] [] W:=⟨bD.nil _ _ _,bD.nil _ _ _,h,h.lt (w.heap.size+3) (.slice none 0 0::T) oO,⟨rfl,fun i s l h1=>by simp at h1,fun i j s s' b h1=>by simp at h1⟩,fun q hq=>(by cases hq),fun g hg=>(by cases hg),fun g hg=>(by cases hg),fun g hg=>(by cases hg)⟩
theorem CmI.go(h:CmI w E D T vh vp N hs ps xs W)(hb:Below W W U):CmI w E D T vh vp N hs ps xs U:=⟨h.oh.go hb,h.op.go hb,h.fr.go hb,cD h.sz hb.size,h.rows.turn (fun b hm=>hb.block b (h.nb b hm).2),fun q hq=>⟨(h.nb q hq).1,cf (h.nb q hq).2 hb.size⟩,h.hp,h.hN,h.pN⟩
theorem CmI.head(h:CmI w E D T vh vp N hs ps xs W){M':List Nat}(hb:Below W W U)(row:bD Int 3 U M' base s.v l.length l)(hba:W.heap.size<=base)(h0:0<l.length)(h1:l.length<=1000)(h2:hs.length<=1000):
 ∃v' w' b,(Builtin.append_ #[40,40] 40 #[vh,.slice (some ⟨U,0,none⟩) 1 1]).run prog (U.alloc (.cells #[s.v] 26))=.ok v' w'/\w'.cell? ⟨w+3,0,none⟩=some vh/\w'.frozen? ⟨w+3,0,none⟩=false/\CmI w E D T v' vp (b::N) (hs++ [s]) ps (xs++ [l]) (w'.setCell ⟨w+3,0,none⟩ v')/\Keeps (bP vh) (U.alloc (.cells #[s.v] 26)) w':=by
 obtain⟨b,y,e⟩:=qA row h0;have I:=h.go hb;have ad:=row.lt (k:=b) (by rw[e];rfl);obtain⟨v',w',r1,V,K,u,r5⟩:=I.oh.app1 (x:=s) (cs:= [s.v]) underlying40 acO I.sz (fun q d=>(by cases d)) rfl oE;have C:∀g,vh.ownBlock=some g->w.heap.size+4<=g/\g<W.heap.size:=fun g O=>h.oh.lt O;have t:∀g,vp.ownBlock=some g->w.heap.size+4<=g/\g<W.heap.size:=fun g O=>h.op.lt O;have aa:U.heap.size<=w'.heap.size:=K.size;have ae:W.heap.size<=U.heap.size:=hb.size;have af:=h.sz;have F:Keeps [w.heap.size+3] w' (w'.setCell ⟨w+3,0,none⟩ v'):=(cF _ w').setCell (p:=⟨w+3,0,none⟩) (.inl oO) _;have J:∀q,q<U.heap.size->vh.ownBlock≠some q->q≠w.heap.size+3->(w'.setCell ⟨w+3,0,none⟩ v').heap[q]?=U.heap[q]?:=fun q d h1 h2=>(F.block q (cf d aa) (by simpa using h2)).trans (K.block q d (fun e=>h1 e.symm));have X:∀g,v'.ownBlock=some g->vh.ownBlock=some g\/g=U.heap.size+1:=fun g O=>by
  rcases u with u|u;·exact .inl (by rw[<-u];exact O)
  rw[u]at O;cases O;exact .inr rfl
 have S:=I.fr.ZI K (fun g O=>⟨by have:=C g O;omega,fun c vs a e=>by have:=C g O;simp at a;omega⟩);have Q:=S.at_ (w.heap.size+3) (vh::T) oO 0 vh rfl;have o:l.length=s.n/\s.A=some ⟨b,0,none⟩/\s.c=y:=by have z:Value.slice s.A s.n s.c=.slice (some ⟨b,0,none⟩) l.length y:=e;injection z with e3 e4 e5;exact⟨e4.symm,e3,e5⟩
 have R:l.length<=y/\jG y:=by
  obtain⟨cs,B,-⟩:=row.ex;rw[e]at B;rcases B.2 with⟨H,_⟩|⟨g',ab,ac,H,-,-,Z,Y,-,-⟩;·cases H
  cases H;exact⟨Z,by simpa[jG,maxLen]using Y⟩
 rw[e]at row;refine⟨v',w',b,r1,Q.1,Q.2,⟨?_,?_,?_,by have:=F.size;omega,?_,?_,?_,?_,?_⟩,r5⟩;·have:=V.flat abf (w':=w'.setCell ⟨w+3,0,none⟩ v') (fun g O=>F.block g (V.lt O).2 (by have:=(V.lt O).1;simp;omega)) [];simpa using this
 ·exact h.op.flat ac2 (fun g O=>(J g (by have:=t g O;omega) (fun e=>h.hp g e O) (by have:=t g O;omega)).trans (hb.block g (t g O).2)) []
 ·have:=Fr.qY (L:= [(w.heap.size,E),(w.heap.size+1,D),(w+2, [vp])]) S (fun c vs a=>by simp at a;omega) (j:=0) (u0:=vh) rfl v';exact this
 ·refine aD.snoc (h.rows.turn (fun q d=>(J q (by have:=h.nb q d;omega) (fun e=>h.hN q e d) (by have:=h.nb q d;omega)).trans (hb.block q (h.nb q d).2))) o.2.1 (fun a=>by have:=h.nb b a;omega) o.1.symm (by rw[o.2.2,<-o.1];exact R.1) (by rw[o.2.2];exact R.2) oE (fun k m a=>?_);obtain⟨es,a1,a2⟩:=row.get a;obtain⟨rfl,a3⟩:=a1;have G:=a2 0 _ rfl;rw[show Rep.sz Int=1 from rfl,ij]at G;have P:=J b oE (fun e=>by have:=C b e;omega) oE;exact⟨by rw[<-G.1];simp only[World.cell?,P];rfl,by rw[<-G.2];simp only[World.frozen?,P];rfl,a3⟩
 ·intro q d;have:=F.size;rcases cB.1 d with rfl|d;·omega
  have:=h.nb q d;omega
 ·intro g O z;have B:=t g z;rcases X g O with f|f;·exact h.hp g f z
  omega
 ·intro g O a;rcases X g O with f|f
  ·rcases cB.1 a with rfl|a;·have:=C _ f;omega
   exact h.hN g f a
  rcases cB.1 a with rfl|a;·omega
  have:=h.nb g a;omega
 ·intro g O a;have B:=t g O;rcases cB.1 a with rfl|a;·omega
  exact h.pN g O a
theorem CmI.place(h:CmI w E D T vh vp N hs ps xs W){p:Int×Int}(hi:i64 p.1/\i64 p.2)(h2:ps.length<=10000):
 ∃v' w',(Builtin.append_ #[170,170] 170 #[vp,.slice (some ⟨W,0,none⟩) 1 1]).run prog (W.alloc (.cells #[.int .i64 p.1,.int .i64 p.2] 173))=.ok v' w'/\w'.cell? ⟨w+2,0,none⟩=some vp/\w'.frozen? ⟨w+2,0,none⟩=false/\CmI w E D T vh v' N hs (ps++ [p]) xs (w'.setCell ⟨w+2,0,none⟩ v'):=by
 obtain⟨v',w',H,V,t,f,P⟩:=h.op.app1 (x:=p) (cs:= [.int .i64 p.1,.int .i64 p.2]) underlying170 adl h.sz (fun q a=>(by cases a)) ⟨_,_,rfl,⟨rfl,hi.1⟩,⟨rfl,hi.2⟩⟩ oE;have o:∀g,vh.ownBlock=some g->w.heap.size+4<=g/\g<W.heap.size:=fun g O=>h.oh.lt O;have A:∀g,vp.ownBlock=some g->w.heap.size+4<=g/\g<W.heap.size:=fun g O=>h.op.lt O;have G:W.heap.size<=w'.heap.size:=t.size;have K:=h.sz;have m:Keeps [w.heap.size+2] w' (w'.setCell ⟨w+2,0,none⟩ v'):=(cF _ w').setCell (p:=⟨w+2,0,none⟩) (.inl oO) _;have u:∀q,q<W.heap.size->vp.ownBlock≠some q->q≠w.heap.size+2->(w'.setCell ⟨w+2,0,none⟩ v').heap[q]?=W.heap[q]?:=fun q a F h2=>(m.block q (cf a G) (by simpa using h2)).trans (t.block q a (fun e=>F e.symm));have z:∀g,v'.ownBlock=some g->vp.ownBlock=some g\/g=W.heap.size+1:=fun g O=>by
  rcases f with f|f;·exact .inl (by rw[<-f];exact O)
  rw[f]at O;cases O;exact .inr rfl
 have y:=h.fr.ZI t (fun g O=>⟨by have:=A g O;omega,fun c J k e=>by have:=A g O;simp at k;omega⟩);have I:=y.at_ (w.heap.size+2) [vp] oO 0 vp rfl;refine⟨v',w',H,I.1,I.2,⟨?_,?_,?_,by have:=m.size;omega,?_,?_,?_,?_,?_⟩⟩;·exact h.oh.flat abf (fun g O=>u g (o g O).2 (fun e=>h.hp g O e) (by have:=o g O;omega)) []
 ·have:=V.flat ac2 (w':=w'.setCell ⟨w+2,0,none⟩ v') (fun g O=>m.block g (V.lt O).2 (by have:=(V.lt O).1;simp;omega)) [];simpa using this
 ·have:=Fr.qY (L:= [(w.heap.size,E),(w.heap.size+1,D),(w+3,vh::T)]) (b:=w+2) (C:= [vp]) (y.only (fun x hx=>by simp at hx;rcases hx with hx|hx|hx|hx<;>simp[hx])) (fun c J k=>by simp at k;omega) (j:=0) (u0:=vp) rfl v';exact this.only (fun x hx=>by simp at hx;rcases hx with hx|hx|hx|hx<;>simp[hx])
 ·exact h.rows.turn (fun q a=>u q (h.nb q a).2 (fun e=>h.pN q e a) (by have:=h.nb q a;omega))
 ·intro q a;have:=m.size;have:=h.nb q a;omega
 ·intro g O B;rcases z g B with d|d;·exact h.hp g O d
  have:=o g O;omega
 ·exact h.hN
 ·intro g O k;rcases z g O with d|d;·exact h.pN g d k
  have:=h.nb g k;omega
end
theorem aej{A:Option Addr}{c:Nat}{w:World}(hx:Sl Int w M A n c l)(hn:n<=100000):
 Calls prog 120 #[.slice A n c] w fun e w'=>∃v,e=.returned v/\bD Int 3 w' M w.heap.size v n l/\Below w w w':=by
 refine wid ?_;obtain⟨v,t,k,V,m⟩:=uz underlying26 RY hx hn;have p:=Hd k;have f:=Hd2 V m;have HZ:=Hd hx;clear k V m hx hn;have q:∀(w:World) (a:Option Addr) (n c n' d:Nat),(binOp .eql 26 (.slice a n c) (.slice none n' d)).run prog w=.ok (.bool a.isNone) w:=fun w a n c n' d=>kh w _ _ a n c n' d underlying26;refine ent func120 rfl ntmps120 ?_
 cases A with
 |none=>exact aj7
 |some a=>
  gi_wp2_with (first
   |(gi_at_builtin;refine cY rfl fun K j=>?_;refine aI _ _ _ rfl rfl rfl p.out (j _ _ ?_);clear j K)
   |fail)
  go_ret;exact⟨_,rfl,f.a,f.u⟩
def CmR(w:World)(Mc:List Nat)(r:aS)(s1 t2 t3 t4:dK)(x:List (List Int))(L:List (Nat×Nat))(e:Ending)(w':World):Prop:=∃N bm bf bv br H Am nm cm hs,e=.returned (.func (.func 122) #[] #[.pointer (some ⟨br,0,none⟩)])/\ItS w' (N++Mc) N bm bf bv br s1 H t2 t3 t4 Am nm cm hs r L/\aD w' N hs x/\(∀q,q∈N->w.heap.size<=q)
def CmJ(r:aS)(x:List (List Int))(ps:List (Int×Int))(g Z:Int)(rest:List (Nat×Nat)):Prop:=ps++rest.map plI=(aa 0 x).map plI/\g*((manyN r.aT rest:Nat):Int)=Z
section
variable {Mc:List Nat}{r:aS}{s1 s2 s3 s4 s5 s6 s7:dK}{c:dS}{t1 t2 t3 t4:dK}{w:World}{i:Int}
theorem abW(hr:dG w Mc r s1 s2 s3 s4 s5 s6 s7)(hc:jE w Mc c t1 t2 t3 t4)(hM:b_ Mc w)(hok:∀x,x∈r.aT->rC x)(hl:c.marks.length<=r.aT.length)(hcn:r.aT.length<=900)(hrow:∀l,l∈c.marks->0<l.length/\l.length<=1000)(hho:(aa 0 c.marks).length<=5000):
 Calls prog 68 #[.agg (evV r s1 s2 s3 s4 s5 s6 s7 i).toArray,.agg (dI t1 t2 t3 t4).toArray] w fun e w'=>((manyN r.aT (aa 0 c.marks)<=5040/\CmR w Mc r s1 t2 t3 t4 c.marks (aa 0 c.marks) e w')\/(5040<manyN r.aT (aa 0 c.marks)/\e=Wx 2))/\Below w w w':=by
 refine wid ?_;obtain⟨A1,S,c1⟩:=s1;obtain⟨X,G,Y⟩:=t1;have h1:Sl bT w Mc A1 S c1 r.aT:=hr.aT;have I:Sl (List Int) w [] X G Y c.marks:=hc.marks;have bc:=h1.small;have ba:=I.small;have bb:G<=S:=by rw[<-h1.len,<-I.len];exact hl
 have uF:S<=900:=by rw[<-h1.len];exact hcn
 obtain⟨W2,aO,F2⟩:=dR ((((Fr.nil w).a w (evV r ⟨A1,S,c1⟩ s2 s3 s4 s5 s6 s7 i) 79).a (w+1) (dI ⟨X,G,Y⟩ t2 t3 t4) 42).a (w+2) [.slice none 0 0] 170);have aH:W2.heap.size=w.heap.size+3:=by rw[<-aO];simp
 have o2:=aW F2;obtain⟨W3,aU,F3⟩:=dR (F2.a W2 (dI ⟨X,G,Y⟩ t2 t3 t4) 42);have o3:=aW F3;obtain⟨W4,I4⟩:=aC (W3.setCell ⟨W2,0,none⟩ (.slice none 0 0));have F4:Fr w W4 [(w,evV r ⟨A1,S,c1⟩ s2 s3 s4 s5 s6 s7 i),(w+1,dI ⟨X,G,Y⟩ t2 t3 t4),(w+2, [.slice none 0 0]),(w+3, [.slice none 0 0,t2.v,t3.v,t4.v])]:=by have:=Fr.qY (L:= [(w,evV r ⟨A1,S,c1⟩ s2 s3 s4 s5 s6 s7 i),(w+1,dI ⟨X,G,Y⟩ t2 t3 t4),(w+2, [.slice none 0 0])]) (b:=W2) (C:=dI ⟨X,G,Y⟩ t2 t3 t4) F3 (fun c vs R=>by simp at R;omega) (j:=0) (u0:=(⟨X,G,Y⟩:dK).v) rfl (.slice none 0 0);rw[I4]at this;rw[aH]at this;exact this
 obtain⟨D,hD⟩:∃D,D=dI ⟨X,G,Y⟩ t2 t3 t4:=⟨_,rfl⟩;obtain⟨E,hE⟩:∃E,E=evV r ⟨A1,S,c1⟩ s2 s3 s4 s5 s6 s7 i:=⟨_,rfl⟩;have aK:=Hd (CmI.nil (T:= [t2.v,t3.v,t4.v]) (by rw[<-hD,<-hE]at F4;exact F4));obtain⟨Z,hZ⟩:∃Z:Int,((manyN r.aT (aa 0 c.marks):Nat):Int)=Z:=⟨_,rfl⟩;have HZ:=Hd hZ;have o4:=aW F4;have H:=Hd7 h1 I hok hrow hho hM h1.len;have av:=Hd2 hD hE;have HG:=Hd I.len;simp only[aH]at aU I4 o3;clear F2 F3 F4 hr hc h1 I hok hrow hho hl hcn hM hD hE hZ;refine ent func68 rfl ntmps68 ?_;gi_wp2;clear o2 o3 o4;gi_loopw[7,19] (fun a i wr=>∃(k:Nat) (g:Int) (vh vp:Value) (N:List Nat) (hs:List dK) (ps:List (Int×Int)),k<=G/\i=.int .i64 k/\a=.int .i64 g/\1<=g/\g<=5040/\Hid (CmI w E D [t2.v,t3.v,t4.v] vh vp N hs ps (c.marks.take k) wr)/\Hid (CmJ r c.marks ps g Z (aa k (c.marks.drop k)))) (fun _ i _=>G-(intOf i).toNat);case atStart=>exact⟨0,1,_,_, [], [], [],bO _,rfl,rfl,oE,oE,by rw[gO];exact aK,Hd ⟨by rw[fh];rfl,by rw[fh,Int.one_mul];exact HZ.out⟩⟩
 case round=>
  obtain⟨k,g,vh,vp,N,hs,ps,hk,rfl,rfl,I,g2,F,Q⟩:=hrel;have J:=F.out.fr;have aD:hs.length<=1000:=by have:=F.out.rows.len;rw[cI]at this;omega
  by_cases a1:k<G
  ·obtain⟨l,af⟩:=dW c.marks k (by rw[HG.out];exact a1);obtain⟨aY,aZ⟩:=H.d l (aR af);obtain⟨b,o,B,m,d,rfl,ap,ah⟩:=H.b.tX af;obtain rfl:l.length=m:=ah.len;have a9:=ah.small;have c0:=(J.bl.cell (bu w _ ap)).trans ap;obtain⟨x,hx⟩:=dW r.aT k (by rw[H.z];omega);have HX:=Hd2 hx (H.c x (aR hx));have nh:w.heap.size+3∉bP vh:=fun R=>by have:=(F.out.oh.lt (bJ.1 R)).1;omega
   have u0:=aF nh (J.aQ 3 0);have au:=Hd (aej (ah.go (J.bl.drew)) oE);have HS:=Hd2 ah af;have ag:=Hd (show CmJ r c.marks ps g Z (an k 0 l++aa (k+1) (c.marks.drop (k+1))) by have h:=Q.out;obtain⟨hi,e⟩:=bj.1 af;rw[cT hi,e,aa]at h;exact h);have a5:c.marks.take k++ [l]=c.marks.take (k+1):=by obtain⟨hi,e⟩:=bj.1 af;rw[eo,af];rfl
   clear Q hx af ah J nh ap;gi_wp2;clear c0;refine aP (bP vh) 6 oF oF ?_;refine ay 0 ?_;refine ay 1 ?_;refine ay 2 ?_;refine eU 3 fun K hK=>?_;gi_wp2;refine Cl 120 au.out ?_;rintro e w4 ⟨v,rfl,aq,hb4⟩;refine hK _ _ ⟨?_,?_⟩;clear hK K;·exact a_ hb4 _
   refine lit ?_;obtain⟨A4,c4,rfl⟩:=aq.shape;have aB:=(bw wr wr).drew.trans hb4;obtain⟨v',w5,b5,r1,q1,q2,R5,aJ⟩:=F.out.head (s:=⟨A4,l.length,c4⟩) aB aq pc aY aZ aD;rw[a5]at R5;obtain⟨A6,c6,rfl⟩:=R5.oh.shape;obtain⟨n6,a2⟩:=aC (hs++ [(⟨A4,l.length,c4⟩:dK)]).length;rw[a2]at r1 R5;obtain⟨V,hV⟩:=aC (w5.setCell ⟨w+3,0,none⟩ (.slice A6 n6 c6));rw[hV]at R5;have HR:=fB r1 aJ R5;clear hb4 aB r1 R5 aJ aq F u0 au;simp only[dK.v]at HR;refine eU 4 fun K hK=>?_;gi_wp2;refine⟨a_ (show Below w4 w4 _ from pd.alloc pc _) _,?_⟩;refine lit ?_;refine oQ 5 [] oF (dN oR rfl ?_ (fun K hK=>?_) gU);·exact wy
   refine aI _ _ _ rfl rfl rfl HR.a (hK _ _ ⟨HR.b,?_⟩);clear hK K;refine lit ?_;refine iq 2 ?_;refine jW fun K hK K' ad=>?_;gi_wp2;refine jW fun K hK K' ad=>?_;gi_wp2;refine dC _ ?_;simp only[cu];gi_wp2;have HV:=Hd HR.v;clear HR q1 q2 hV;gi_loopw[7,33] (fun a i wr=>∃(j:Nat) (g:Int) (vp:Value) (ps:List (Int×Int)),j<=l.length/\i=.int .i64 j/\a=.int .i64 g/\1<=g/\g<=5040/\Hid (CmI w E D [t2.v,t3.v,t4.v] (.slice A6 n6 c6) vp (b5::N) (hs++ [⟨A4,l.length,c4⟩]) ps (c.marks.take (k+1)) wr)/\Hid (CmJ r c.marks ps g Z (an k j (l.drop j)++aa (k+1) (c.marks.drop (k+1))))) (fun _ i _=>l.length-(intOf i).toNat);case atStart=>exact⟨0,g,vp,ps,bO _,rfl,rfl,I,g2,HV,by rw[fh];exact ag⟩
   case round=>
    clear HV ag;obtain⟨j,g,vp,ps,hj,rfl,rfl,I,g2,F,Q⟩:=hrel;have J:=F.out.fr;by_cases a0:j<l.length
    ·obtain⟨b2,bn,y,rfl,y0,-,-,hy⟩:=(HS.a.go J.bl).pR a0;obtain⟨aX,ey⟩:=bj.1 hy;have ab:=Hd (show CmJ r c.marks ps g Z ((if y= -1 then(k,j)::an k (j+1) (l.drop (j+1))else an k (j+1) (l.drop (j+1)))++aa (k+1) (c.marks.drop (k+1))) by
      have h:=Q.out;rw[cT aX,ey,an]at h;exact h)
     clear Q hy;by_cases aj:y= -1
     ·subst aj;rw[if_pos rfl,dx]at ab;have a3:ps.length<=10000:=by
       have h:=gM List.length ab.a;have h5:=H.e;simp only[cH,cC]at h;omega
      obtain⟨v',w3,r1,q1,q2,R2⟩:=F.out.place (p:=((k:Int),(j:Int))) ⟨oV,oV⟩ a3;obtain⟨A7,c7,rfl⟩:=R2.op.shape;obtain⟨n7,aG⟩:=aC (ps++ [((k:Int),(j:Int))]).length;rw[aG]at r1 R2;obtain⟨V2,aN⟩:=aC (w3.setCell ⟨w+2,0,none⟩ (.slice A7 n7 c7));rw[aN]at R2;have ai:=R2.fr;rw[av.u]at ai;have x0:V2.cell? ⟨w,1,none⟩=some (.slice A1 S c1):=ai.aQ 0 1;obtain⟨b3,o3,rfl,v0,v1,v2,v3,v4,v5,v6⟩:=(H.a.go ai.bl).IU HX.a;obtain⟨V3,JM,az,F3⟩:=fP (w:=V2) ((Fr.nil V2).a V2 (DY x) 59);have o3:=aW F3;have ax:=Hd (R2.go az);obtain⟨k1,k2,k3,k4,-⟩:=HX.u;obtain⟨e1,e2⟩:=abe HX.u;obtain⟨z,hz⟩:=aC (ao x).length;rw[hz]at e1 e2;have aw:=Hd (show ps++ [((k:Int),(j:Int))]++(an k (j+1) (l.drop (j+1))++aa (k+1) (c.marks.drop (k+1))).map plI=(aa 0 c.marks).map plI/\(g*(z:Int))*((manyN r.aT (an k (j+1) (l.drop (j+1))++aa (k+1) (c.marks.drop (k+1))):Nat):Int)=Z by
       refine⟨?_,?_⟩;·have h:=ab.a;rw[fg]at h;rw[<-h,d_];rfl
       have h:=ab.u;rw[manyN,show r.aT.getD (k,j).1 aao=x by rw[cx,HX.a];rfl,hz]at h;rw[<-h,eJ,Int.mul_assoc])
      have aE:=ab2 r.aT (an k (j+1) (l.drop (j+1))++aa (k+1) (c.marks.drop (k+1)));obtain⟨xn,al,ak,ar,aM,a7,a6⟩:=x;simp only at k1 k2 k3 k4 e1 v0 v1 v2 v3 v4 v5 v6;simp only[DY]at JM o3;obtain⟨t,ht⟩:=aC ((ak-al).tdiv ar);rw[ht]at e1;have p0:=aa_ (xn,al,ak,ar,aM,a7,a6);rw[hz]at p0;have n5:¬ar=0:=oE;have bm:IntKind.i64.wrap (ak-al)=ak-al:=by rw[bR];omega
      have n8:IntKind.i64.wrap t=t:=by rw[bR];omega
      have n9:IntKind.i64.wrap (t+1)=(z:Int):=by rw[bR];omega
      have p1:1<=g*((z:Nat):Int):=by have:=mS I (show(1:Int)<=((z:Nat):Int) by omega) oE oE;omega
      have p2:g*((z:Nat):Int)<=6000000:=by exact TR
      have p3:IntKind.i64.wrap (g*((z:Nat):Int))=g*((z:Nat):Int):=by rw[bR];omega
      have JR:=Hd r1;have y9:=J.aQ 2 0;have a8:=Hd HX.u;clear R2 r1 F hz aG ai az F3 HX ab J HS;have aL:=Hd aE;clear e1 e2 k1 k2 k3 k4 aE p0;by_cases aV:g*(z:Int)<=5040
      ·gi_wp2_with (first
         |(refine Cl 30 (aaq _ _) ?_;rintro e w2 ⟨rfl,rfl⟩)
         |(gi_at_builtin;refine cY rfl fun K ad=>?_;refine aI _ _ _ rfl rfl rfl JR.out (ad _ _ ?_);clear ad K)
         |fail)
       exact⟨⟨j+1,_,_,_,oE,by go_num,rfl,p1,aV,ax,aw⟩,by simp[intOf];omega⟩
      gi_wp2_with (first
       |(refine Cl 30 (aaP _ _) ?_;rintro e w2 ⟨rfl,rfl⟩)
       |(gi_at_builtin;refine cY rfl fun K ad=>?_;refine aI _ _ _ rfl rfl rfl JR.out (ad _ _ ?_);clear ad K)
       |fail)
      refine⟨rfl,.inr ⟨?_,rfl⟩,ax.out.fr.bl⟩;have bf:=aL.out;have bg:=aw.u;have bi:=HZ.out;have bk:=jb (show(1:Int)<=((manyN r.aT (an k (j+1) (l.drop (j+1))++aa (k+1) (c.marks.drop (k+1))):Nat):Int) by omega) (show 0<=g*(z:Int) by omega);omega
     have be:(y== -1)=false:=cU.2 aj;rw[if_neg aj]at ab;clear aj J;gi_wp2_with (first|(refine⟨bq,?_⟩))
     exact⟨⟨j+1,g,vp,ps,oE,by go_num,rfl,I,g2,F,ab⟩,by simp[intOf];omega⟩
    ·have HE:=Hd (show CmJ r c.marks ps g Z (aa (k+1) (c.marks.drop (k+1))) by
       have h:=Q.out;rw[cA oE,an,de]at h;exact h)
     clear Q J;gi_wp2;exact⟨⟨k+1,g,_,vp,_,_,ps,oE,by go_num,rfl,I,g2,F,HE⟩,by simp[intOf];omega⟩
  ·obtain rfl:k=G:=oE;have ag:=Hd (show ps=(aa 0 c.marks).map plI/\g=Z by
    have h:=Q.out;rw[cA (by rw[HG.out];exact bh _),aa]at h;exact⟨by have:=h.1;rwa [ix,ef]at this,by have:=h.2;simpa[manyN]using this⟩)
   have ac:=F.out;rw[bL (by rw[HG.out];exact bh _)]at ac;have a4:ps.length<=5000:=by rw[ag.a,cC];exact H.e
   obtain⟨V5,oM,aA,F5⟩:=fP (w:=wr) ((Fr.nil wr).a wr [.func (.func 121) #[] #[.pointer (some ⟨w+2,0,none⟩),.pointer (some ⟨w+3,0,none⟩),.pointer (some ⟨w,0,none⟩),.pointer (some ⟨wr,0,none⟩)]] 174);have P:=ac.go aA;have ae:∀q,q∈N++Mc->(q∈N/\w.heap.size+4<=q/\q<wr.heap.size)\/q<w.heap.size:=fun q A=>by
    rcases cR.1 A with A|A;·exact .inl ⟨A,ac.nb q A⟩
    exact .inr (H.f q A)
   obtain⟨A8,c8,rfl,S8⟩:=aaZ (M:=N++Mc) (P.oh.flat abf (fun _ _=>rfl) (N++Mc)) oE (fun q A R=>by
    rcases ae q A with h|h;·exact P.hN q (bJ.1 R) h.1
    have:=(P.oh.lt (bJ.1 R)).1;omega)
   obtain⟨A9,c9,rfl,S9⟩:=aaZ (M:=N++Mc) (P.op.flat ac2 (fun _ _=>rfl) (N++Mc)) oE (fun q A R=>by
    rcases ae q A with h|h;·exact P.pN q (bJ.1 R) h.1
    have:=(P.op.lt (bJ.1 R)).1;omega)
   have O:=P.fr;rw[av.u]at O;have bd:=ac.sz;have HE:=Hd2 (show manyN r.aT (aa 0 c.marks)<=5040 by have:=HZ.out;have:=ag.u;omega) (show ItS V5 (N++Mc) N (w.heap.size+2) (w.heap.size+3) w.heap.size wr.heap.size ⟨A1,S,c1⟩ ⟨A8,hs.length,c8⟩ t2 t3 t4 A9 ps.length c9 hs r (aa 0 c.marks)from⟨O.aQ 2 0,by rw[<-ag.a];exact S9,O.aQ 3 0,O.aQ 3 1,O.aQ 3 2,O.aQ 3 3,O.aQ 0 1,(H.a.moreL N (fun q A=>by have:=ac.nb q A;omega)).go O.bl,F5.aQ 0 0,S8,⟨fun A=>by rcases ae _ A with h|h<;>omega,fun A=>by rcases ae _ A with h|h<;>omega,fun A=>by rcases ae _ A with h|h<;>omega,fun A=>by rcases ae _ A with h|h<;>omega⟩,fun q A=>df _ A,fun q A=>(P.nb q A).2⟩);have am:=fB P.rows (show ∀q,q∈N->w.heap.size<=q from fun q A=>by have:=ac.nb q A;omega) O.bl;clear Q F J ac P ae S8 S9 O aA F5 a4 aD;gi_wp2;go_ret;exact⟨.inl ⟨HE.a,N,_,_,_,_,⟨A8,hs.length,c8⟩,_,_,_,hs,rfl,HE.u,am.a,am.b⟩,am.v⟩
end
end
