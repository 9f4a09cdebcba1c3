/- Lemmas -/
import Derived.Test.YtfdmnogfflcllaaGreatDoorM34
set_option linter.all false
set_option maxRecDepth 100000
set_option maxHeartbeats 0
namespace Go.Proofs.YtfdmnogfflcllaaGreatDoor
open Go.Proofs.Tryz Go.RowKit Go.Shelf
variable {e:TypeId}{M:List Nat}{base n k:Nat}{v:Value}{s:dK}{l:List Int}
section
attribute [local go_sem] cX
def Flat(α:Type) [Rep α]:Prop:=∀{w:World}{M:List Nat}{x:α}{es:List Value},Rep.rd w M x es->∀(w':World) (M':List Nat),Rep.rd w' M' x es
theorem abl:Flat dK:=fun h _ _=>h
theorem ada:Flat (Int×Int):=fun h w' M'=>by obtain⟨a,b,e,h1,h2⟩:=h;exact⟨a,b,e,h1,h2⟩
instance:kJ (Int×Int):=⟨by
 intro w M x cs h u hu;rw[agl h]at hu;simp at hu;rcases hu with rfl|rfl<;>rfl⟩
theorem bD.flat{α:Type} [kJ α] (hf:Flat α){w w':World}{xs:List α}(h:bD α e w M base v n xs)(ho:∀g,v.ownBlock=some g->w'.heap[g]?=w.heap[g]?)(M':List Nat):bD α e w' M' base v n xs:=by obtain⟨cs,f,j⟩:=h.ex;exact⟨h.len,cs,qp f (fun g P _=>ho g P),fun k x hx=>by obtain⟨d,a,b⟩:=j k x hx;exact⟨d,hf a _ _,b⟩⟩
theorem aa5{α:Type} [kJ α] {w:World}{xs:List α}(h:bD α e w M base v n xs)(hn:n<=1000000000)(hd:∀k,k∈M->k∉bP v):∃A c,v=.slice A n c/\Sl α w M A n c xs:=by
 obtain⟨cs,f,p⟩:=h.ex;rcases f.2 with⟨rfl,rfl⟩|⟨g,m,I,rfl,hb,y,C,t,K,G⟩;·exact X9
 refine⟨_,m,rfl,h.len,C,by simpa[jG,maxLen]using t,pj,.inr ⟨g,0,rfl,fun k x z=>?_⟩⟩;obtain⟨o,a,b⟩:=p k x z;refine⟨o,oY a (fun q F=>cP _ F),fun B=>hd g B (bJ.2 rfl),fun j u H=>?_⟩;have d:=b j u H;have J:=(bu.1 d).1;have:=f.1;rw[<-G,eQ pj,jj]at d;simp[World.cell?,y,d]
theorem ad3:(prog.info? 173).map (fun i=>(i.zero,i.size,i.bytes))=some (some (.agg #[.int .i64 0,.int .i64 0]),2,16):=pk
theorem adB:iU 173 (Rep.sz (Int×Int)):=iU.mk' ad3 rfl pj
theorem afh:(prog.info? 26).map (fun i=>(i.zero,i.size,i.bytes))=some (some (.slice none 0 0),1,24):=pk
theorem acV:iU 26 (Rep.sz dK):=iU.mk' afh rfl pj
theorem aM.snoc{W:World}{N:List Nat}{hs:List dK}{x:List (List Int)}{b:Nat}(h:aM W N hs x)(hA:s.A=some ⟨b,0,none⟩)(hb:b∉N)(hn:s.n=l.length)(hc:s.n<=s.c)(hco:jG s.c)(hl:s.n<=1000)
 (hr:∀(k:Nat) (m:Int),l[k]?=some m->W.cell? ⟨b,k,none⟩=some (.int .i64 m)/\W.frozen? ⟨b,k,none⟩=false/\i64 m):aM W (b::N) (hs++ [s]) (x++ [l]):=by
 have q:∀{i:Nat}{a:dK},(hs++ [s])[i]?=some a->hs[i]?=some a\/(i=hs.length/\a=s):=fun{i a} hi=>by
  by_cases y:i<hs.length;·rw[dk y]at hi;exact .inl hi
  rw[cQ pj]at hi;have:=(bu.1 hi).1;simp at this;refine .inr ⟨pj,?_⟩;rw[show i-hs.length=0 by omega]at hi;cases hi;rfl
 refine⟨by simp[h.len],fun i a z f g=>?_,fun i j s1 s2 o f g H O=>?_⟩
 ·rcases q f with f|⟨rfl,rfl⟩;·rw[dk (by rw[<-h.len];exact(bu.1 f).1)]at g;obtain⟨b1,d,L,p⟩:=h.row i a z f g;exact⟨b1,d,bE _ L,p⟩
  rw[h.len,cQ pD,gA]at g;cases g;exact⟨b,hA,cw,hn,hc,hco,hl,hr⟩
 ·have t:∀{i:Nat}{a:dK},hs[i]?=some a->a.A=some ⟨o,0,none⟩->o∈N:=fun{i a} hi e=>by
    obtain⟨b1,d,L,-⟩:=h.row i a _ hi (cd (by rw[<-h.len];exact(bu.1 hi).1));rw[e]at d;cases d;exact L
  rcases q f with d|⟨d,p⟩<;>rcases q g with L|⟨L,u⟩
  ·exact h.dis i j s1 s2 o d L H O
  ·rw[u,hA]at O;cases O;exact absurd (t d H) hb
  ·rw[p,hA]at H;cases H;exact absurd (t L O) hb
  rw[d,L]
structure CmI(w:World)(E D T:List Value)(vh vp:Value)(N:List Nat)(hs:List dK)(ps:List (Int×Int))(xs:List (List Int))(W:World):Prop where
 oh:bD dK 26 W [] (w.heap.size+4) vh hs.length hs
 op:bD (Int×Int) 173 W [] (w.heap.size+4) vp ps.length ps
 fr:Fr w W [(w.heap.size,E),(w.heap.size+1,D),(w+2, [vp]),(w+3,vh::T)]
 sz:w.heap.size+4<=W.heap.size
 rows:aM W N hs xs
 nb:∀q,q∈N->w.heap.size+4<=q/\q<W.heap.size
 hp:∀g,vh.ownBlock=some g->vp.ownBlock≠some g
 hN:∀g,vh.ownBlock=some g->g∉N
 pN:∀g,vp.ownBlock=some g->g∉N
section
variable {w:World}{E D T:List Value}{vh vp:Value}{N:List Nat}{hs:List dK}{ps:List (Int×Int)}{xs:List (List Int)}{W U:World}
theorem CmI.nil(h:Fr w W [(w.heap.size,E),(w.heap.size+1,D),(w+2, [.slice none 0 0]),(w.heap.size+3,.slice none 0 0::T)]):CmI w E D T (.slice none 0 0) (.slice none 0 0) [] [] [] [] W:=⟨bD.nil _ _ _,bD.nil _ _ _,h,h.lt (w.heap.size+3) (.slice none 0 0::T) po,⟨rfl,fun i s l h1=>by simp at h1,fun i j s s' b h1=>by simp at h1⟩,fun q hq=>(by cases hq),fun g hg=>(by cases hg),fun g hg=>(by cases hg),fun g hg=>(by cases hg)⟩
theorem CmI.go(h:CmI w E D T vh vp N hs ps xs W)(hb:Below W W U):CmI w E D T vh vp N hs ps xs U:=⟨h.oh.go hb,h.op.go hb,h.fr.go hb,cF h.sz hb.size,h.rows.turn (fun b hm=>hb.block b (h.nb b hm).2),fun q hq=>⟨(h.nb q hq).1,bX (h.nb q hq).2 hb.size⟩,h.hp,h.hN,h.pN⟩
theorem CmI.head(h:CmI w E D T vh vp N hs ps xs W){M':List Nat}(hb:Below W W U)(row:bD Int 3 U M' base s.v l.length l)(hba:W.heap.size<=base)(h0:0<l.length)(h1:l.length<=1000)(h2:hs.length<=1000):
 ∃v' w' b,(Builtin.append_ #[40,40] 40 #[vh,.slice (some ⟨U,0,none⟩) 1 1]).run prog (U.alloc (.cells #[s.v] 26))=.ok v' w'/\w'.cell? ⟨w+3,0,none⟩=some vh/\w'.frozen? ⟨w+3,0,none⟩=false/\CmI w E D T v' vp (b::N) (hs++ [s]) ps (xs++ [l]) (w'.setCell ⟨w+3,0,none⟩ v')/\Keeps (bP vh) (U.alloc (.cells #[s.v] 26)) w':=by
 obtain⟨b,u,e⟩:=qA row h0;have H:=h.go hb;have ad:=row.lt (k:=b) (by rw[e];rfl);obtain⟨v',w',r1,J,K,t,r5⟩:=H.oh.app1 (x:=s) (cs:= [s.v]) underlying40 acV H.sz (fun q d=>(by cases d)) rfl pj;have z:∀g,vh.ownBlock=some g->w.heap.size+4<=g/\g<W.heap.size:=fun g P=>h.oh.lt P;have o:∀g,vp.ownBlock=some g->w.heap.size+4<=g/\g<W.heap.size:=fun g P=>h.op.lt P;have aa:U.heap.size<=w'.heap.size:=K.size;have ae:W.heap.size<=U.heap.size:=hb.size;have af:=h.sz;have B:Keeps [w.heap.size+3] w' (w'.setCell ⟨w+3,0,none⟩ v'):=(cG _ w').setCell (p:=⟨w+3,0,none⟩) (.inl po) _;have I:∀q,q<U.heap.size->vh.ownBlock≠some q->q≠w.heap.size+3->(w'.setCell ⟨w+3,0,none⟩ v').heap[q]?=U.heap[q]?:=fun q d h1 h2=>(B.block q (bX d aa) (by simpa using h2)).trans (K.block q d (fun e=>h1 e.symm));have X:∀g,v'.ownBlock=some g->vh.ownBlock=some g\/g=U.heap.size+1:=fun g P=>by
  rcases t with t|t;·exact .inl (by rw[<-t];exact P)
  rw[t]at P;cases P;exact .inr rfl
 have V:=H.fr.ZI K (fun g P=>⟨by have:=z g P;omega,fun c vs a e=>by have:=z g P;simp at a;omega⟩);have R:=V.at_ (w.heap.size+3) (vh::T) po 0 vh rfl;have f:l.length=s.n/\s.A=some ⟨b,0,none⟩/\s.c=u:=by have O:Value.slice s.A s.n s.c=.slice (some ⟨b,0,none⟩) l.length u:=e;injection O with e3 e4 e5;exact⟨e4.symm,e3,e5⟩
 have S:l.length<=u/\jG u:=by
  obtain⟨cs,y,-⟩:=row.ex;rw[e]at y;rcases y.2 with⟨G,_⟩|⟨g',ab,ac,G,-,-,Z,Y,-,-⟩;·cases G
  cases G;exact⟨Z,by simpa[jG,maxLen]using Y⟩
 rw[e]at row;refine⟨v',w',b,r1,R.1,R.2,⟨?_,?_,?_,by have:=B.size;omega,?_,?_,?_,?_,?_⟩,r5⟩;·have:=J.flat abl (w':=w'.setCell ⟨w+3,0,none⟩ v') (fun g P=>B.block g (J.lt P).2 (by have:=(J.lt P).1;simp;omega)) [];simpa using this
 ·exact h.op.flat ada (fun g P=>(I g (by have:=o g P;omega) (fun e=>h.hp g e P) (by have:=o g P;omega)).trans (hb.block g (o g P).2)) []
 ·have:=Fr.qY (L:= [(w.heap.size,E),(w.heap.size+1,D),(w.heap.size+2, [vp])]) V (fun c vs a=>by simp at a;omega) (j:=0) (u0:=vh) rfl v';exact this
 ·refine aM.snoc (h.rows.turn (fun q d=>(I q (by have:=h.nb q d;omega) (fun e=>h.hN q e d) (by have:=h.nb q d;omega)).trans (hb.block q (h.nb q d).2))) f.2.1 (fun a=>by have:=h.nb b a;omega) f.1.symm (by rw[f.2.2,<-f.1];exact S.1) (by rw[f.2.2];exact S.2) pj (fun k m a=>?_);obtain⟨es,a1,a2⟩:=row.get a;obtain⟨rfl,a3⟩:=a1;have C:=a2 0 _ rfl;rw[show Rep.sz Int=1 from rfl,gP]at C;have Q:=I b pj (fun e=>by have:=z b e;omega) pj;exact⟨by rw[<-C.1];simp only[World.cell?,Q];rfl,by rw[<-C.2];simp only[World.frozen?,Q];rfl,a3⟩
 ·intro q d;have:=B.size;rcases cD.1 d with rfl|d;·omega
  have:=h.nb q d;omega
 ·intro g P O;have y:=o g O;rcases X g P with F|F;·exact h.hp g F O
  omega
 ·intro g P a;rcases X g P with F|F
  ·rcases cD.1 a with rfl|a;·have:=z _ F;omega
   exact h.hN g F a
  rcases cD.1 a with rfl|a;·omega
  have:=h.nb g a;omega
 ·intro g P a;have y:=o g P;rcases cD.1 a with rfl|a;·omega
  exact h.pN g P a
theorem CmI.place(h:CmI w E D T vh vp N hs ps xs W){p:Int×Int}(hi:i64 p.1/\i64 p.2)(h2:ps.length<=10000):
 ∃v' w',(Builtin.append_ #[170,170] 170 #[vp,.slice (some ⟨W,0,none⟩) 1 1]).run prog (W.alloc (.cells #[p.1,p.2] 173))=.ok v' w'/\w'.cell? ⟨w+2,0,none⟩=some vp/\w'.frozen? ⟨w+2,0,none⟩=false/\CmI w E D T vh v' N hs (ps++ [p]) xs (w'.setCell ⟨w+2,0,none⟩ v'):=by
 obtain⟨v',w',I,t,u,f,Q⟩:=h.op.app1 (x:=p) (cs:= [p.1,p.2]) underlying170 adB h.sz (fun q a=>(by cases a)) ⟨_,_,rfl,⟨rfl,hi.1⟩,⟨rfl,hi.2⟩⟩ pj;have o:∀g,vh.ownBlock=some g->w.heap.size+4<=g/\g<W.heap.size:=fun g P=>h.oh.lt P;have B:∀g,vp.ownBlock=some g->w.heap.size+4<=g/\g<W.heap.size:=fun g P=>h.op.lt P;have H:W.heap.size<=w'.heap.size:=u.size;have J:=h.sz;have m:Keeps [w.heap.size+2] w' (w'.setCell ⟨w+2,0,none⟩ v'):=(cG _ w').setCell (p:=⟨w+2,0,none⟩) (.inl po) _;have y:∀q,q<W.heap.size->vp.ownBlock≠some q->q≠w.heap.size+2->(w'.setCell ⟨w+2,0,none⟩ v').heap[q]?=W.heap[q]?:=fun q a G h2=>(m.block q (bX a H) (by simpa using h2)).trans (u.block q a (fun e=>G e.symm));have A:∀g,v'.ownBlock=some g->vp.ownBlock=some g\/g=W.heap.size+1:=fun g P=>by
  rcases f with f|f;·exact .inl (by rw[<-f];exact P)
  rw[f]at P;cases P;exact .inr rfl
 have z:=h.fr.ZI u (fun g P=>⟨by have:=B g P;omega,fun c vs d e=>by have:=B g P;simp at d;omega⟩);have K:=z.at_ (w.heap.size+2) [vp] po 0 vp rfl;refine⟨v',w',I,K.1,K.2,⟨?_,?_,?_,by have:=m.size;omega,?_,?_,?_,?_,?_⟩⟩;·exact h.oh.flat abl (fun g P=>y g (o g P).2 (fun e=>h.hp g P e) (by have:=o g P;omega)) []
 ·have:=t.flat ada (w':=w'.setCell ⟨w+2,0,none⟩ v') (fun g P=>m.block g (t.lt P).2 (by have:=(t.lt P).1;simp;omega)) [];simpa using this
 ·have:=Fr.qY (L:= [(w.heap.size,E),(w.heap.size+1,D),(w.heap.size+3,vh::T)]) (b:=w.heap.size+2) (C:= [vp]) (z.only (fun x hx=>by simp at hx;rcases hx with hx|hx|hx|hx<;>simp[hx])) (fun c vs d=>by simp at d;omega) (j:=0) (u0:=vp) rfl v';exact this.only (fun x hx=>by simp at hx;rcases hx with hx|hx|hx|hx<;>simp[hx])
 ·exact h.rows.turn (fun q a=>y q (h.nb q a).2 (fun e=>h.pN q e a) (by have:=h.nb q a;omega))
 ·intro q a;have:=m.size;have:=h.nb q a;omega
 ·intro g P O;rcases A g O with F|F;·exact h.hp g P F
  have:=o g P;omega
 ·exact h.hN
 ·intro g P d;rcases A g P with F|F;·exact h.pN g F d
  have:=h.nb g d;omega
end
theorem aeD{A:Option Addr}{c:Nat}{w:World}(hx:Sl Int w M A n c l)(hn:n<=100000):
 Calls prog 120 #[.slice A n c] w fun e w'=>∃v,e=.returned v/\bD Int 3 w' M w.heap.size v n l/\Below w w w':=by
 refine wid ?_;obtain⟨v,y,m,p,q⟩:=uz underlying26 RY hx hn;have t:=Hd m;have f:=Hd2 p q;have HZ:=Hd hx;clear m p q hx hn;have x:∀(w:World) (a:Option Addr) (n c n' d:Nat),(binOp .eql 26 (.slice a n c) (.slice none n' d)).run prog w=.ok a.isNone w:=fun w a n c n' d=>lh w _ _ a n c n' d underlying26;refine ent func120 ntmps120 ?_
 cases A with
 |none=>exact akG
 |some a=>
  gi_wp2_with (first
   |(gi_at_builtin;refine c_ rfl fun K j=>?_;refine aI _ _ _ rfl rfl rfl t.out (j _ _ ?_);clear j K)
   |fail)
  go_ret;exact⟨_,rfl,f.a,f.u⟩
def CmR(w:World)(Mc:List Nat)(r:aS)(s1 t2 t3 t4:dK)(x:List (List Int))(L:List (Nat×Nat))(e:Ending)(w':World):Prop:=∃N bm bf bv br H Am nm cm hs,e=.returned (.func (.func 122) #[] #[.pointer (some ⟨br,0,none⟩)])/\ItS w' (N++Mc) N bm bf bv br s1 H t2 t3 t4 Am nm cm hs r L/\aM w' N hs x/\(∀q,q∈N->w.heap.size<=q)
def CmJ(r:aS)(x:List (List Int))(ps:List (Int×Int))(g Z:Int)(rest:List (Nat×Nat)):Prop:=ps++rest.map plI=(aa 0 x).map plI/\g*((manyN r.aT rest:Nat):Int)=Z
section
variable {Mc:List Nat}{r:aS}{s1 s2 s3 s4 s5 s6 s7:dK}{c:dS}{t1 t2 t3 t4:dK}{w:World}{i:Int}
theorem ab8(hr:dG w Mc r s1 s2 s3 s4 s5 s6 s7)(hc:jE w Mc c t1 t2 t3 t4)(hM:b_ Mc w)(hok:∀x,x∈r.aT->rC x)(hl:c.marks.length<=r.aT.length)(hcn:r.aT.length<=900)(hrow:∀l,l∈c.marks->0<l.length/\l.length<=1000)(hho:(aa 0 c.marks).length<=5000):
 Calls prog 68 #[.agg (evV r s1 s2 s3 s4 s5 s6 s7 i).toArray,.agg (dI t1 t2 t3 t4).toArray] w fun e w'=>((manyN r.aT (aa 0 c.marks)<=5040/\CmR w Mc r s1 t2 t3 t4 c.marks (aa 0 c.marks) e w')\/(5040<manyN r.aT (aa 0 c.marks)/\e=Wx 2))/\Below w w w':=by
 refine wid ?_;obtain⟨A1,S,c1⟩:=s1;obtain⟨X,G,Y⟩:=t1;have h1:Sl bT w Mc A1 S c1 r.aT:=hr.aT;have I:Sl (List Int) w [] X G Y c.marks:=hc.marks;have bb:=h1.small;have a_:=I.small;have ba:G<=S:=by rw[<-h1.len,<-I.len];exact hl
 have uF:S<=900:=by rw[<-h1.len];exact hcn
 obtain⟨W2,aR,F2⟩:=dR ((((Fr.nil w).a w (evV r ⟨A1,S,c1⟩ s2 s3 s4 s5 s6 s7 i) 79).a (w+1) (dI ⟨X,G,Y⟩ t2 t3 t4) 42).a (w+2) [.slice none 0 0] 170);have aJ:W2.heap.size=w.heap.size+3:=by rw[<-aR];simp
 have o2:=aW F2;obtain⟨W3,aU,F3⟩:=dR (F2.a W2 (dI ⟨X,G,Y⟩ t2 t3 t4) 42);have o3:=aW F3;obtain⟨W4,I4⟩:=aC (W3.setCell ⟨W2,0,none⟩ (.slice none 0 0));have F4:Fr w W4 [(w,evV r ⟨A1,S,c1⟩ s2 s3 s4 s5 s6 s7 i),(w+1,dI ⟨X,G,Y⟩ t2 t3 t4),(w+2, [.slice none 0 0]),(w+3, [.slice none 0 0,t2.v,t3.v,t4.v])]:=by have:=Fr.qY (L:= [(w.heap.size,evV r ⟨A1,S,c1⟩ s2 s3 s4 s5 s6 s7 i),(w.heap.size+1,dI ⟨X,G,Y⟩ t2 t3 t4),(w.heap.size+2, [.slice none 0 0])]) (b:=W2.heap.size) (C:=dI ⟨X,G,Y⟩ t2 t3 t4) F3 (fun c vs R=>by simp at R;omega) (j:=0) (u0:=(⟨X,G,Y⟩:dK).v) rfl (.slice none 0 0);rw[I4]at this;rw[aJ]at this;exact this
 obtain⟨D,hD⟩:∃D,D=dI ⟨X,G,Y⟩ t2 t3 t4:=⟨_,rfl⟩;obtain⟨E,hE⟩:∃E,E=evV r ⟨A1,S,c1⟩ s2 s3 s4 s5 s6 s7 i:=⟨_,rfl⟩;have aL:=Hd (CmI.nil (T:= [t2.v,t3.v,t4.v]) (by rw[<-hD,<-hE]at F4;exact F4));obtain⟨Z,hZ⟩:∃Z:Int,((manyN r.aT (aa 0 c.marks):Nat):Int)=Z:=⟨_,rfl⟩;have HZ:=Hd hZ;have o4:=aW F4;have H:=Hd7 h1 I hok hrow hho hM h1.len;have av:=Hd2 hD hE;have HG:=Hd I.len;simp only[aJ]at aU I4 o3;clear F2 F3 F4 hr hc h1 I hok hrow hho hl hcn hM hD hE hZ;refine ent func68 ntmps68 ?_;gi_wp2;clear o2 o3 o4;gi_loopw[7,19] (fun a i wr=>∃(k:Nat) (g:Int) (vh vp:Value) (N:List Nat) (hs:List dK) (ps:List (Int×Int)),k<=G/\i=k/\a=g/\1<=g/\g<=5040/\Hid (CmI w E D [t2.v,t3.v,t4.v] vh vp N hs ps (c.marks.take k) wr)/\Hid (CmJ r c.marks ps g Z (aa k (c.marks.drop k)))) (fun _ i _=>G-(intOf i).toNat);case atStart=>exact⟨0,1,_,_, [], [], [],cf _,rfl,rfl,pj,pj,by rw[fT];exact aL,Hd ⟨by rw[fi];rfl,by rw[fi,Int.one_mul];exact HZ.out⟩⟩
 case round=>
  obtain⟨k,g,vh,vp,N,hs,ps,hk,rfl,rfl,I,g2,F,Q⟩:=hrel;have J:=F.out.fr;have aE:hs.length<=1000:=by have:=F.out.rows.len;rw[cI]at this;omega
  by_cases a1:k<G
  ·obtain⟨l,ag⟩:=dW c.marks k (by rw[HG.out];exact a1);obtain⟨aY,aZ⟩:=H.d l (bh ag);obtain⟨b,o,B,m,d,rfl,ap,ai⟩:=H.b.tX ag;obtain rfl:l.length=m:=ai.len;have a9:=ai.small;have c0:=(J.bl.cell (bw w _ ap)).trans ap;obtain⟨x,hx⟩:=dW r.aT k (by rw[H.z];omega);have HX:=Hd2 hx (H.c x (bh hx));have nh:w.heap.size+3∉bP vh:=fun R=>by have:=(F.out.oh.lt (bJ.1 R)).1;omega
   have u0:=aF nh (J.aQ 3 0);have au:=Hd (aeD (ai.go (J.bl.drew)) pj);have HS:=Hd2 ai ag;have ah:=Hd (show CmJ r c.marks ps g Z (ao k 0 l++aa (k+1) (c.marks.drop (k+1))) by have h:=Q.out;obtain⟨hi,e⟩:=bu.1 ag;rw[cL hi,e,aa]at h;exact h);have a5:c.marks.take k++ [l]=c.marks.take (k+1):=by obtain⟨hi,e⟩:=bu.1 ag;rw[dm,ag];rfl
   clear Q hx ag ai J nh ap;gi_wp2;clear c0;refine aP (bP vh) 6 pk pk ?_;refine ay 0 ?_;refine ay 1 ?_;refine ay 2 ?_;refine eU 3 fun K hK=>?_;gi_wp2;refine Cl 120 au.out ?_;rintro e w4 ⟨v,rfl,aq,hb4⟩;refine hK _ _ ⟨?_,?_⟩;clear hK K;·exact bq hb4 _
   refine lit ?_;obtain⟨A4,c4,rfl⟩:=aq.shape;have aB:=(bL wr wr).drew.trans hb4;obtain⟨v',w5,b5,r1,q1,q2,R5,aK⟩:=F.out.head (s:=⟨A4,l.length,c4⟩) aB aq pD aY aZ aE;rw[a5]at R5;obtain⟨A6,c6,rfl⟩:=R5.oh.shape;obtain⟨n6,a2⟩:=aC (hs++ [(⟨A4,l.length,c4⟩:dK)]).length;rw[a2]at r1 R5;obtain⟨V,hV⟩:=aC (w5.setCell ⟨w+3,0,none⟩ (.slice A6 n6 c6));rw[hV]at R5;have HR:=fB r1 aK R5;clear hb4 aB r1 R5 aK aq F u0 au;simp only[dK.v]at HR;refine eU 4 fun K hK=>?_;gi_wp2;refine⟨bq (show Below w4 w4 _ from pE.alloc pD _) _,?_⟩;refine lit ?_;refine oQ 5 [] pk (dN pt rfl ?_ (fun K hK=>?_) gU);·exact wy
   refine aI _ _ _ rfl rfl rfl HR.out.1 (hK _ _ ⟨HR.b,?_⟩);clear hK K;refine lit ?_;refine iq 2 ?_;refine jW fun K hK K' ad=>?_;gi_wp2;refine jW fun K hK K' ad=>?_;gi_wp2;refine et _ ?_;simp only[cu];gi_wp2;have HV:=Hd HR.v;clear HR q1 q2 hV;gi_loopw[7,33] (fun a i wr=>∃(j:Nat) (g:Int) (vp:Value) (ps:List (Int×Int)),j<=l.length/\i=.int .i64 j/\a=.int .i64 g/\1<=g/\g<=5040/\Hid (CmI w E D [t2.v,t3.v,t4.v] (.slice A6 n6 c6) vp (b5::N) (hs++ [⟨A4,l.length,c4⟩]) ps (c.marks.take (k+1)) wr)/\Hid (CmJ r c.marks ps g Z (ao k j (l.drop j)++aa (k+1) (c.marks.drop (k+1))))) (fun _ i _=>l.length-(intOf i).toNat);case atStart=>exact⟨0,g,vp,ps,cf _,rfl,rfl,I,g2,HV,by rw[fi];exact ah⟩
   case round=>
    clear HV ah;obtain⟨j,g,vp,ps,hj,rfl,rfl,I,g2,F,Q⟩:=hrel;have J:=F.out.fr;by_cases a0:j<l.length
    ·obtain⟨b2,bm,y,rfl,y0,-,-,hy⟩:=(HS.a.go J.bl).pR a0;obtain⟨aX,ey⟩:=bu.1 hy;have ab:=Hd (show CmJ r c.marks ps g Z ((if y= -1 then(k,j)::ao k (j+1) (l.drop (j+1))else ao k (j+1) (l.drop (j+1)))++aa (k+1) (c.marks.drop (k+1))) by
      have h:=Q.out;rw[cL aX,ey,ao]at h;exact h)
     clear Q hy;by_cases ak:y= -1
     ·subst ak;rw[if_pos rfl,d_]at ab;have a3:ps.length<=10000:=by
       have h:=gT List.length ab.a;have h5:=H.e;simp only[cJ,ck]at h;omega
      obtain⟨v',w3,r1,q1,q2,R2⟩:=F.out.place (p:=((k:Int),(j:Int))) ⟨pA,pA⟩ a3;obtain⟨A7,c7,rfl⟩:=R2.op.shape;obtain⟨n7,aH⟩:=aC (ps++ [((k:Int),(j:Int))]).length;rw[aH]at r1 R2;obtain⟨V2,aO⟩:=aC (w3.setCell ⟨w+2,0,none⟩ (.slice A7 n7 c7));rw[aO]at R2;have aj:=R2.fr;rw[av.u]at aj;have x0:V2.cell? ⟨w,1,none⟩=some (.slice A1 S c1):=aj.aQ 0 1;obtain⟨b3,o3,rfl,v0,v1,v2,v3,v4,v5,v6⟩:=(H.a.go aj.bl).IU HX.a;obtain⟨V3,JM,az,F3⟩:=fP (w:=V2) ((Fr.nil V2).a V2 (DY x) 59);have o3:=aW F3;have ax:=Hd (R2.go az);obtain⟨k1,k2,k3,k4,-⟩:=HX.u;obtain⟨e1,e2⟩:=aaT HX.u;obtain⟨z,hz⟩:=aC (af x).length;rw[hz]at e1 e2;have aw:=Hd (show ps++ [((k:Int),(j:Int))]++(ao k (j+1) (l.drop (j+1))++aa (k+1) (c.marks.drop (k+1))).map plI=(aa 0 c.marks).map plI/\(g*(z:Int))*((manyN r.aT (ao k (j+1) (l.drop (j+1))++aa (k+1) (c.marks.drop (k+1))):Nat):Int)=Z by
       refine⟨?_,?_⟩;·have h:=ab.a;rw[eV]at h;rw[<-h,dz];rfl
       have h:=ab.u;rw[manyN,show r.aT.getD (k,j).1 aD=x by rw[cC,HX.a];rfl,hz]at h;rw[<-h,eI,Int.mul_assoc])
      have aG:=aaP r.aT (ao k (j+1) (l.drop (j+1))++aa (k+1) (c.marks.drop (k+1)));obtain⟨xn,am,al,ar,aN,a7,a6⟩:=x;simp only at k1 k2 k3 k4 e1 v0 v1 v2 v3 v4 v5 v6;simp only[DY]at JM o3;obtain⟨t,ht⟩:=aC ((al-am).tdiv ar);rw[ht]at e1;have p0:=aaO (xn,am,al,ar,aN,a7,a6);rw[hz]at p0;have n5:¬ar=0:=pj;have bk:IntKind.i64.wrap (al-am)=al-am:=by rw[cA];omega
      have n8:IntKind.i64.wrap t=t:=by rw[cA];omega
      have n9:IntKind.i64.wrap (t+1)=(z:Int):=by rw[cA];omega
      have p1:1<=g*((z:Nat):Int):=by have:=ix I (show(1:Int)<=((z:Nat):Int) by omega) pj pj;omega
      have p2:g*((z:Nat):Int)<=6000000:=by exact U2
      have p3:IntKind.i64.wrap (g*((z:Nat):Int))=g*((z:Nat):Int):=by rw[cA];omega
      have JR:=Hd r1;have y9:=J.aQ 2 0;have a8:=Hd HX.u;clear R2 r1 F hz aH aj az F3 HX ab J HS;have aM:=Hd aG;clear e1 e2 k1 k2 k3 k4 aG p0;by_cases aV:g*(z:Int)<=5040
      ·gi_wp2_with (first
         |(refine Cl 30 (aas _ _) ?_;rintro e w2 ⟨rfl,rfl⟩)
         |(gi_at_builtin;refine c_ rfl fun K ad=>?_;refine aI _ _ _ rfl rfl rfl JR.out (ad _ _ ?_);clear ad K)
         |fail)
       exact⟨⟨j+1,_,_,_,pj,by go_num,rfl,p1,aV,ax,aw⟩,by simp[intOf];omega⟩
      gi_wp2_with (first
       |(refine Cl 30 (aaS _ _) ?_;rintro e w2 ⟨rfl,rfl⟩)
       |(gi_at_builtin;refine c_ rfl fun K ad=>?_;refine aI _ _ _ rfl rfl rfl JR.out (ad _ _ ?_);clear ad K)
       |fail)
      refine⟨rfl,.inr ⟨?_,rfl⟩,ax.out.fr.bl⟩;have be:=aM.out;have bf:=aw.u;have bg:=HZ.out;have bi:=js (show(1:Int)<=((manyN r.aT (ao k (j+1) (l.drop (j+1))++aa (k+1) (c.marks.drop (k+1))):Nat):Int) by omega) (show 0<=g*(z:Int) by omega);omega
     have bd:(y== -1)=false:=cU.2 ak;rw[if_neg ak]at ab;clear ak J;gi_wp2_with (first|(refine⟨bO,?_⟩))
     exact⟨⟨j+1,g,vp,ps,pj,by go_num,rfl,I,g2,F,ab⟩,by simp[intOf];omega⟩
    ·have HE:=Hd (show CmJ r c.marks ps g Z (aa (k+1) (c.marks.drop (k+1))) by
       have h:=Q.out;rw[cB pj,ao,df]at h;exact h)
     clear Q J;gi_wp2;exact⟨⟨k+1,g,_,vp,_,_,ps,pj,by go_num,rfl,I,g2,F,HE⟩,by simp[intOf];omega⟩
  ·obtain rfl:k=G:=pj;have ah:=Hd (show ps=(aa 0 c.marks).map plI/\g=Z by
    have h:=Q.out;rw[cB (by rw[HG.out];exact bj _),aa]at h;exact⟨by have:=h.1;rwa [ia,dx]at this,by have:=h.2;simpa[manyN]using this⟩)
   have ac:=F.out;rw[bR (by rw[HG.out];exact bj _)]at ac;have a4:ps.length<=5000:=by rw[ah.a,ck];exact H.e
   obtain⟨V5,oM,aA,F5⟩:=fP (w:=wr) ((Fr.nil wr).a wr [.func (.func 121) #[] #[.pointer (some ⟨w+2,0,none⟩),.pointer (some ⟨w+3,0,none⟩),.pointer (some ⟨w,0,none⟩),.pointer (some ⟨wr,0,none⟩)]] 174);have P:=ac.go aA;have ae:∀q,q∈N++Mc->(q∈N/\w.heap.size+4<=q/\q<wr.heap.size)\/q<w.heap.size:=fun q A=>by
    rcases cK.1 A with A|A;·exact .inl ⟨A,ac.nb q A⟩
    exact .inr (H.f q A)
   obtain⟨A8,c8,rfl,S8⟩:=aa5 (M:=N++Mc) (P.oh.flat abl (fun _ _=>rfl) (N++Mc)) pj (fun q A R=>by
    rcases ae q A with h|h;·exact P.hN q (bJ.1 R) h.1
    have:=(P.oh.lt (bJ.1 R)).1;omega)
   obtain⟨A9,c9,rfl,S9⟩:=aa5 (M:=N++Mc) (P.op.flat ada (fun _ _=>rfl) (N++Mc)) pj (fun q A R=>by
    rcases ae q A with h|h;·exact P.pN q (bJ.1 R) h.1
    have:=(P.op.lt (bJ.1 R)).1;omega)
   have O:=P.fr;rw[av.u]at O;have bc:=ac.sz;have HE:=Hd2 (show manyN r.aT (aa 0 c.marks)<=5040 by have:=HZ.out;have:=ah.u;omega) (show ItS V5 (N++Mc) N (w.heap.size+2) (w.heap.size+3) w.heap.size wr.heap.size ⟨A1,S,c1⟩ ⟨A8,hs.length,c8⟩ t2 t3 t4 A9 ps.length c9 hs r (aa 0 c.marks)from⟨O.aQ 2 0,by rw[<-ah.a];exact S9,O.aQ 3 0,O.aQ 3 1,O.aQ 3 2,O.aQ 3 3,O.aQ 0 1,(H.a.moreL N (fun q A=>by have:=ac.nb q A;omega)).go O.bl,F5.aQ 0 0,S8,⟨fun A=>by rcases ae _ A with h|h<;>omega,fun A=>by rcases ae _ A with h|h<;>omega,fun A=>by rcases ae _ A with h|h<;>omega,fun A=>by rcases ae _ A with h|h<;>omega⟩,fun q A=>di _ A,fun q A=>(P.nb q A).2⟩);have an:=fB P.rows (show ∀q,q∈N->w.heap.size<=q from fun q A=>by have:=ac.nb q A;omega) O.bl;clear Q F J ac P ae S8 S9 O aA F5 a4 aE;gi_wp2;go_ret;exact⟨.inl ⟨HE.a,N,_,_,_,_,⟨A8,hs.length,c8⟩,_,_,_,hs,rfl,HE.u,an.a,an.b⟩,an.v⟩
end
theorem acE:Flat Int:=fun h _ _=>h
theorem abr{α:Type} [kJ α] {w:World}{g cap:Nat}{xs:List α}{x:α}(h:bD α e w M base (.slice (some ⟨g,0,none⟩) n cap) n xs)(hz:Rep.sz α=1)(hk:xs[k]?=some x){u:Value}(hu:∀es,Rep.rd w (g::M) x es->es= [u]):
 w.cell? ⟨g,k,none⟩=some u/\w.frozen? ⟨g,k,none⟩=false:=by
 obtain⟨es,b,d⟩:=h.get hk;have:=d 0 u (by rw[hu es b];rfl)
 rwa [hz,gP]at this
theorem aee{w:World}{c:dS}{t1 t2 t3 t4:dK}{i:Nat}{m:Int}(hM:b_ M w)(hc:Sl (List Int) w M t1.A t1.n t1.c c.marks)(hl:c.marks[i]?=some l)(hk:k<l.length)(hm:i64 m)(hn:c.marks.length<=1000)(hll:l.length<=1000):
 Calls prog 17 #[.agg (dI t1 t2 t3 t4).toArray,i,k,m] w fun e w'=>∃s:dK,e=.returned (.agg (dI s t2 t3 t4).toArray)/\Sl (List Int) w' M s.A s.n s.c (aak c.marks (i,k) m)/\Below w w w':=by
 refine wid ?_;obtain⟨A,n,O⟩:=t1;have S:Sl (List Int) w M A n O c.marks:=hc;have au:c.marks.length=n:=S.len;have aq:=(bu.1 hl).1;obtain⟨hs,Q,y⟩:=S.hd;have an:hs.length=n:=Q.len;obtain⟨s,Z⟩:=dW hs i pj;have af:=y.2 i s l Z hl;obtain⟨W1,ao,F1⟩:=dR (((Fr.nil w).a w (dI ⟨A,n,O⟩ t2 t3 t4) 42).a (w+1) [.slice none 0 0,.slice none 0 0,.slice none 0 0,.slice none 0 0] 42);have o1:=aW F1;obtain⟨v,W2,r1,z,ad⟩:=uz (t:=40) underlying40 acV (Q.go F1.bl) pj;obtain⟨g,o,rfl⟩:=qA z pj;have hg:=z.lt (k:=g) rfl;obtain⟨y0,y1⟩:=abr z rfl Z (u:=s.v) (fun es h=>h);have Xx:=F1.bl.trans (ad.mono F1.bl.size);have ar:l.length=s.n:=af.len;obtain⟨v3,W3,r3,B,ae⟩:=uz (t:=26) underlying26 RY (af.go Xx) pj;obtain⟨f,X,rfl⟩:=qA B pj;have ai:=B.lt (k:=f) rfl;have aa:=z.go ae;obtain⟨z0,z1⟩:=abr aa rfl Z (u:=s.v) (fun es h=>h);obtain⟨H,I4⟩:=aC (W3.setCell ⟨g,i,none⟩ (.slice (some ⟨f,0,none⟩) s.n X));obtain⟨V,-⟩:=aa.ags (k:=i) (x:=(⟨some ⟨f,0,none⟩,s.n,X⟩:dK)) (us:= [.slice (some ⟨f,0,none⟩) s.n X]) pj rfl (w':=H) (by rw[<-I4,show Rep.sz dK=1 from rfl,gP];rfl);have k4:KpO [g] W3 H:=by rw[<-I4];exact(KpO.refl _ _).setCell (p:=⟨g,i,none⟩) (.inl po) _
 have ap:g≠f:=pj;have ab:=B.flat acE (w':=H) (fun q d=>k4.k.block q (B.lt d).2 (by cases d;simp;omega)) M;obtain⟨l0,ah⟩:=dW l k hk;obtain⟨x0,x1⟩:=abr ab rfl ah (u:=.int .i64 l0) (fun es h=>h.1);obtain⟨a0,a1⟩:=abr V rfl (gl (show i<hs.length by omega)) (u:=.slice (some ⟨f,0,none⟩) s.n X) (fun es h=>h);obtain⟨I,CZ⟩:=aC (H.setCell ⟨f,k,none⟩ m);obtain⟨O5,-⟩:=ab.ags (k:=k) (x:=m) (us:= [m]) pj ⟨rfl,hm⟩ (w':=I) (by rw[<-CZ,show Rep.sz Int=1 from rfl,gP];rfl);have k5:KpO [f] H I:=by rw[<-CZ];exact(KpO.refl _ _).setCell (p:=⟨f,k,none⟩) (.inl po) _
 have ac:=V.flat abl (w':=I) (fun q d=>k5.k.block q (V.lt d).2 (by cases d;simp;omega)) M;have al:w.heap.size+2<=W1.heap.size:=F1.mJ 1;have F5:=((((F1.go ad).go ae).kpo k4 (fun q d=>by simp at d;omega) (fun b vs hm d=>by simp at hm d;omega)).kpo k5 (fun q d=>by simp at d;omega) (fun b vs hm d=>by simp at hm d;omega));have o5:=aW F5;have F6:=Fr.qY (L:= [(w.heap.size+1, [.slice none 0 0,.slice none 0 0,.slice none 0 0,.slice none 0 0])]) (b:=w.heap.size) (C:=dI ⟨A,n,O⟩ t2 t3 t4) (F5.only (fun x hx=>by simp at hx;rcases hx with hx|hx<;>simp[hx])) (fun b vs hm=>by simp at hm;omega) (j:=0) (u0:=.slice A n O) rfl (.slice (some ⟨g,0,none⟩) n o);obtain⟨J,X0⟩:=aC (I.setCell ⟨w,0,none⟩ (.slice (some ⟨g,0,none⟩) n o));rw[X0]at F6;replace F6:Fr w J [(w+1, [.slice none 0 0,.slice none 0 0,.slice none 0 0,.slice none 0 0]),(w,dI ⟨some ⟨g,0,none⟩,n,o⟩ t2 t3 t4)]:=F6;have k6:KpO [w] I J:=by rw[<-X0];exact(KpO.refl _ _).setCell (p:=⟨w,0,none⟩) (.inl po) _
 have F:=ac.flat abl (w':=J) (fun q d=>k6.k.block q (ac.lt d).2 (by cases d;simp;omega)) M;have G:=O5.flat acE (w':=J) (fun q d=>k6.k.block q (O5.lt d).2 (by cases d;simp;omega)) M;have o6:=aW F6;have HA:=Hd2 r1 r3;have HO:=Zw F G F6 y hl S;have HB:=oK an Z hg ai (fun q d=>bX (hM q d) (cF (Nat.le_add_right _ 2) al));clear r1 r3 z B aa V ab O5 ac F G F1 F5 F6 k4 k5 k6 hc S y af Q ad ae Xx hl ah;simp only[dK.v]at y0 z0;have ag:W1.cell? ⟨w,0,none⟩=some (.slice A n O):=o1.1;have e1:=Iz (.cells #[] 26) ag;have e2:=Iz (.cells #[] 3) y0;refine ent func17 ntmps17 ?_
 gi_wp2_with (first
  |(have g:=G1.out;clear g;gi_at_builtin;refine c_ rfl fun K R=>?_;refine aI _ _ _ rfl rfl rfl HA.u (R _ _ ?_);clear R K)
  |(gi_at_builtin;refine c_ rfl fun K R=>?_;refine aI _ _ _ rfl rfl rfl HA.a (R _ _ ?_);clear R K;have G1:=Hd trivial)
  |fail)
 clear o1 o5 o6 y0 y1 z0 z1 x0 x1 a0 a1 e1 e2 ag;obtain⟨F,G,F6,y,hl,S⟩:=HO.out;have FE:=F6.only (L':= [(w.heap.size+1, [.slice none 0 0,.slice none 0 0,.slice none 0 0,.slice none 0 0])]) (fun x hx=>by simp at hx;simp[hx]);refine(fun(h:∀U,fM J (w.heap.size+1) 0 (dI ⟨some ⟨g,0,none⟩,n,o⟩ t2 t3 t4)=U->bodyPost _ _ _ _ _ U)=>h _ rfl) ?_;intro U hU;obtain⟨f2,kb⟩:=FE.abt (us:=dI ⟨some ⟨g,0,none⟩,n,o⟩ t2 t3 t4) rfl hU;have c0:=f2.aQ 0 0;have c1:=f2.aQ 0 1;have c2:=f2.aQ 0 2;have c3:=f2.aQ 0 3;obtain⟨A',c',ee,am⟩:=aa5 (F.flat abl (w':=U) (fun q d=>kb.k.block q (F.lt d).2 (by cases d;simp;omega)) M) pj (fun q d hx=>by have Q:=HB.x q d;have h2:=HB.out.2.2.1.1;simp[bP,Value.ownBlock]at hx;omega);cases ee;obtain⟨B',d',ee,ak⟩:=aa5 (G.flat acE (w':=U) (fun q d=>kb.k.block q (G.lt d).2 (by cases d;simp;omega)) M) pj (fun q d hx=>by have Q:=HB.x q d;have h2:=HB.out.2.2.2.1.1;simp[bP,Value.ownBlock]at hx;omega);cases ee;have aj:∀j,(aak c.marks (i,k) m)[j]?=if i=j then some (l.set k m)else c.marks[j]?:=fun j=>by
  unfold aak;rw[show c.marks.getD (i,k).1 []=l by rw[cC,hl];rfl,List.getElem?_set];by_cases e:i=j;·subst e;simp[(bu.1 hl).1]
  simp[e]
 refine⟨rfl,.agg (dI ⟨some ⟨g,0,none⟩,n,o⟩ t2 t3 t4).toArray,by simp[results,results17,go_sem,c0,c1,c2,c3],⟨some ⟨g,0,none⟩,n,o⟩,rfl,Sl.agk am ⟨by rw[fR,aaQ];exact y.1,fun j s0 l' Y P=>?_⟩,f2.bl⟩;rw[aj]at P;by_cases e:i=j;·subst e;rw[if_pos rfl]at P;cases P;rw[gl (by have:=HB.a;omega)]at Y;cases Y;exact ak
 ·rw[if_neg e]at P;rw[gj e]at Y;exact(y.2 j s0 l' Y P).go f2.bl
end
