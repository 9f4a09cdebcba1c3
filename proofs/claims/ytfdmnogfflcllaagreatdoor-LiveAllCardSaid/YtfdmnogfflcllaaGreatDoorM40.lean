/- Lemmas -/
import Derived.Test.YtfdmnogfflcllaaGreatDoorM39
set_option linter.all false
set_option maxRecDepth 100000
set_option maxHeartbeats 0
namespace Go.Proofs.YtfdmnogfflcllaaGreatDoor
open Go.Proofs.Tryz
theorem AO{p:Prop}(h:p:=by
 have aj:=Hd (N.out.trans (hb4.mono N.out.size));have al:=Hd Q;clear aq gs hb4 F4 Q ab;cases bm;·gi_wp2;refine Cl 13 HX.out ?_;rintro e' w6 ⟨rfl,hb⟩;have aU:=Hd (aj.out.trans (hb.mono aj.out.size));clear hb;gi_wp2;exact⟨⟨u+1,pj,by go_num,by rw[al.out];rfl,aU⟩,by simp[intOf];omega⟩
 gi_wp2_with (first|(refine⟨bO,?_⟩)|fail)
 exact⟨⟨u+1,pj,by go_num,by rw[al.out];rfl,aj⟩,by simp[intOf];omega⟩):p:=h
theorem ES{p:Prop}(h:p:=by
 rcases cK.1 D with D|D;·exact p.b y D
 rw[bz]at D;subst D;exact aq.out):p:=h
theorem ET{p:Prop}(h:p:=by
 gi_wp2_with (first|(refine⟨bO,?_⟩)|fail)
 go_ret;exact⟨rfl,J.out.at_.fr.bl⟩):p:=h
theorem EW{p:Prop}(h:p:=by show Sl fC P [t.bo,t.g] Z (m+1) c8 ((ch++ [s]).map jd);rw[ed];exact H):p:=h
theorem Xo{p:Prop}(h:p:=by exact⟨⟨t+1,_,_,_,pj,by go_num,rfl,HN⟩,by simp[intOf];omega⟩):p:=h
theorem Zo{p:Prop}(h:p:=by have:=h2.c0 rfl;rwa [show Rep.sz (List fC)=1 from rfl,gP]at this):p:=h
variable {ch:List Rt}{c m sb:Nat}{M:List Nat}{B:Option Addr}{cs:List fC}{en:Int}
inductive Choice:List (List Rt)->List Rt->Prop
 |nil:Choice [] []
 |cons {L:List Rt}{Ls:List (List Rt)}{s:Rt}{c:List Rt}:s∈L->Choice Ls c->Choice (L::Ls) (s::c)
def abv(x s:Rt):Bool:=decide (0<rW s x)
theorem map_range{α:Type}(d:α)(l:List α):(List.range l.length).map (fun i=>l.getD i d)=l:=by refine jx po fun i b a=>?_;simp[cC,cd a]
theorem adk{g:List Rt->Rt}{all:List (List Rt)}{e:Nat}{x:Rt}(hg:g [x]=x):aaL g all e x=(all.set e [x]).countP fun L=>abv x (g L):=by
 have h:=map_range [] (all.set e [x]);rw[fR]at h;rw[<-h,List.countP_map];unfold aaL;refine List.countP_congr fun i u=>?_;rw[ga]at u;show _↔abv x (g ((all.set e [x]).getD i []))=true;by_cases a:i=e;·subst a;rw[aaK u,hg];simp[abv,abh]
 rw[getD_set_ne (Ne.symm a)];simp[abv,a]
theorem Choice.some{x:Rt}(hx:x.ok):∀{Ls:List (List Rt)}{t:Nat},(∀L,L∈Ls->aaq L)->(Ls.countP fun L=>abv x (aE L))<=t->t<=(Ls.countP fun L=>abv x (ax L))->∃c,Choice Ls c/\c.countP (abv x)=t
 | [],t,_,_,h=>⟨[],.nil,by simp at h;simp[h]⟩
 |L::Ls,t,hr,h1,h2=>by
  have o:=hr L cw;have hs:=fun K hK=>hr K (bE _ hK);rw[mc]at h1 h2;by_cases a:abv x (aE L)=true;·have b:abv x (ax L)=true:=cx (abG (o.ok _ o.head) (o.ok _ o.last) hx (o.low o.last) (cW a));rw[if_pos a]at h1;rw[if_pos b]at h2;obtain⟨c,hc,e⟩:=Choice.some hx (Ls:=Ls) (t:=t-1) hs pj pj;exact⟨aE L::c,.cons o.head hc,by rw[mc,if_pos a];omega⟩
  rw[if_neg a]at h1;by_cases b:abv x (ax L)=true
  ·rw[if_pos b]at h2;by_cases ht:t<=Ls.countP fun L=>abv x (ax L);·obtain⟨c,hc,e⟩:=Choice.some hx (Ls:=Ls) (t:=t) hs pj ht;exact⟨aE L::c,.cons o.head hc,by rw[mc,if_neg a];omega⟩
   have hle:(Ls.countP fun L=>abv x (aE L))<=(Ls.countP fun L=>abv x (ax L)):=List.countP_mono_left fun L hL hp=>by have o:=hs L hL;exact cx (abG (o.ok _ o.head) (o.ok _ o.last) hx (o.low o.last) (cW hp))
   obtain⟨c,hc,e⟩:=Choice.some hx (Ls:=Ls) (t:=t-1) hs pj pj;exact⟨ax L::c,.cons o.last hc,by rw[mc,if_pos b];omega⟩
  rw[if_neg b]at h2;obtain⟨c,hc,e⟩:=Choice.some hx (Ls:=Ls) (t:=t) hs pj pj;exact⟨aE L::c,.cons o.head hc,by rw[mc,if_neg a];omega⟩
theorem Choice.bound{x:Rt}(hx:x.ok):∀{Ls:List (List Rt)}{c:List Rt},(∀L,L∈Ls->aaq L)->Choice Ls c->(Ls.countP fun L=>abv x (aE L))<=c.countP (abv x)/\c.countP (abv x)<=(Ls.countP fun L=>abv x (ax L))
 | [],_,_,.nil=>by simp
 |L::Ls,s::c,hr,.cons hs hc=>by
  have o:=hr L cw;obtain⟨h1,h2⟩:=Choice.bound hx (fun K hK=>hr K (bE _ hK)) hc;have a:abv x (aE L)=true->abv x s=true:=fun a=>cx (abG (o.ok _ o.head) (o.ok _ hs) hx (o.low hs) (cW a));have b:abv x s=true->abv x (ax L)=true:=fun a=>cx (abG (o.ok _ hs) (o.ok _ o.last) hx (o.high hs) (cW a));simp only[mc];constructor
  ·split;·rename_i g;rw[if_pos (a g)];omega
   omega
  split;·rename_i g;rw[if_pos (b g)];omega
  omega
theorem Choice.at_:∀{Ls:List (List Rt)}{c:List Rt}{i:Nat},Choice Ls c->i<Ls.length->c.getD i zR∈Ls.getD i []
 |L::Ls,s::c,0,.cons h _,_=>h
 |L::Ls,s::c,i+1,.cons _ h,hi=>by have:=Choice.at_ (i:=i) h (by simpa using hi);simpa using this
theorem Choice.set:∀{Ls:List (List Rt)}{c:List Rt}{i:Nat},Choice Ls c->i<Ls.length->Choice (Ls.set i [c.getD i zR]) c
 |L::Ls,s::c,0,.cons h r,_=>.cons po r
 |L::Ls,s::c,i+1,.cons h r,hi=>.cons h (by have:=Choice.set (i:=i) r (by simpa using hi);simpa using this)
theorem Choice.unset{x:Rt}:∀{Ls:List (List Rt)}{c:List Rt}{i:Nat},Choice (Ls.set i [x]) c->i<Ls.length->x∈Ls.getD i []->Choice Ls c/\c.getD i zR=x
 |L::Ls,c,0,h0,_,hx=>by
  rw[eM]at h0
  cases h0 with
  |cons h r=>rw[bz]at h;subst h;exact⟨.cons hx r,rfl⟩
 |L::Ls,c,i+1,h0,hi,hx=>by
  rw[fq]at h0
  cases h0 with
  |cons h r=>obtain⟨a,b⟩:=Choice.unset (Ls:=Ls) (i:=i) r (by simpa using hi) (by simpa using hx);exact⟨.cons h a,by simpa using b⟩
def aaH(c:List Rt)(e:Nat):Nat:=c.countP (abv (c.getD e zR))+1
theorem aeY{all:List (List Rt)}{e n:Nat}(h:∀L,L∈all->aaq L)(he:e<all.length):n∈aaF all e↔∃c,Choice all c/\aaH c e=n:=by
 have P:aaq (all.getD e []):=h _ (by rw[cC,cd he];exact fN _);have j:∀{x:Rt},x.ok->∀L,L∈all.set e [x]->aaq L:=fun{x} a L d=>by
  rcases mE d with d|rfl;·exact h L d
  exact⟨fun y b=>by rw[bz]at b;exact b▸a,⟨fun y b=>(by cases b),bO⟩,po⟩
 unfold aaF;rw[List.mem_filter,ga];constructor;·rintro⟨p,i⟩;obtain⟨x,hx,i⟩:=iS.1 i;rw[cS,eW,eW,adk rfl,adk rfl]at i;have a:=P.ok x hx;obtain⟨c,K,H⟩:=Choice.some a (t:=n-1) (j a) pj pj;obtain⟨l,o⟩:=Choice.unset K he hx;exact⟨c,l,by rw[aaH,o,H];omega⟩
 rintro⟨c,K,rfl⟩;have hx:=K.at_ he;have a:=P.ok _ hx;obtain⟨b1,b2⟩:=Choice.bound a (j a) (K.set he);rw[<-adk rfl]at b1 b2;refine⟨by have:=ae9 (g:=ax) (x:=c.getD e zR) he;unfold aaH;omega,iS.2 ⟨_,hx,?_⟩⟩;rw[cS,eW,eW];unfold aaH;omega
def aaX(e:Nat):List (List Rt)->List Rt->(Nat->Bool)->(Nat->Bool)
 | [],ch,f=>fun n=>f n||decide (aaH ch e=n)
 |L::Ls,ch,f=>L.foldl (fun g s=>aaX e Ls (ch++ [s]) g) f
theorem adN{e:Nat}:∀(Ls:List (List Rt)) (ch:List Rt) (f:Nat->Bool) (n:Nat),aaX e Ls ch f n=true↔f n=true\/∃c,Choice Ls c/\aaH (ch++c) e=n
 | [],ch,f,n=>by
   show(f n||decide (aaH ch e=n))=true↔_;rw[ie,eW];constructor
   ·rintro(h|h);·exact .inl h
    exact .inr ⟨[],.nil,by rw[dx];exact h⟩
   rintro(h|⟨c,hc,h⟩);·exact .inl h
   cases hc;rw[dx]at h;exact .inr h
 |L::Ls,ch,f,n=>by
  have key:∀(L':List Rt) (f:Nat->Bool),(L'.foldl (fun g s=>aaX e Ls (ch++ [s]) g) f) n=true↔f n=true\/∃s,s∈L'/\∃c,Choice Ls c/\aaH (ch++s::c) e=n:=by
   intro L'
   induction L' with
   |nil=>intro f;simp
   |cons s L' ih=>
    intro f;rw[nq,ih,adN Ls (ch++ [s]) f n];simp only[dz,List.singleton_append];constructor
    ·rintro((h|⟨c,b,h2⟩)|⟨t,b,h2⟩);·exact .inl h
     ·exact .inr ⟨s,cw,c,b,h2⟩
     exact .inr ⟨t,bE _ b,h2⟩
    ·rintro(h|⟨t,b,h2⟩);·exact .inl (.inl h)
     rcases cD.1 b with rfl|b;·exact .inl (.inr h2)
     exact .inr ⟨t,b,h2⟩
  rw[aaX,key];constructor
  ·rintro(h|⟨s,b,c,h2,h3⟩);·exact .inl h
   exact .inr ⟨s::c,.cons b h2,h3⟩
  rintro(h|⟨c,b,h2⟩);·exact .inl h
  cases b with
  |cons b h3=>exact .inr ⟨_,b,_,h3,h2⟩
theorem Choice.congr{α:Type}{f g:α->List Rt}:∀{os:List α}{c:List Rt},(∀y,y∈os->∀s,s∈f y->s∈g y)->Choice (os.map f) c->Choice (os.map g) c
 | [],_,_,h=>h
 |y::os,c,hs,h=>by
  rw[eV]at h
  cases h with
  |cons h1 h2=>exact .cons (hs y cw _ h1) (Choice.congr (os:=os) (fun z hz=>hs z (bE _ hz)) h2)
theorem aga{e:Nat}(he:e<ch.length):1<=aaH ch e/\aaH ch e<=ch.length:=by
 refine⟨by unfold aaH;omega,?_⟩;have b:=mq (p:=abv (ch.getD e zR)) (l:=ch);by_cases h:ch.countP (abv (ch.getD e zR))=ch.length;·have d:=List.countP_eq_length.1 h (ch.getD e zR) (by rw[cC,cd he];exact fN he);unfold abv at d;rw[abh]at d;exact absurd (cW d) pj
 unfold aaH;omega
theorem afH{q k:Nat}{f:Nat->Bool}(hk:k<=q):(aaW q f).set k true=aaW q fun n=>f n||decide (k=n):=by
 refine jx (by simp[aaW]) fun i b d=>?_;rw[List.getElem_set];simp only[aaW,List.getElem_map,List.getElem_range];by_cases h:k=i;·rw[if_pos h,cx h,Bool.or_true]
 rw[if_neg h,cE h,l6]
def abS(ch:List Rt)(e k:Nat):Nat:=(ch.take k).countP (abv (ch.getD e zR))+1
theorem aeZ{e:Nat}:abS ch e ch.length=aaH ch e:=by unfold abS aaH;rw[mH]
theorem aeg{e k:Nat}{s:Rt}(h:ch[k]?=some s):abS ch e (k+1)=if 0<rW s (ch.getD e zR)then abS ch e k+1 else abS ch e k:=by unfold abS;rw[dm,h,List.countP_append];simp only[iA,List.countP_singleton,abv,eW];split<;>omega
section
variable {r:aS}{k:Nat}{x:aJ}{os:List aL}
def aaB(r:aS)(x:aJ)(c:dS):List Rt:=(av r c).map (aao r x c)
theorem abT{c:dS}{y:Rt}(hg:f_ r k c)(hw:yI r c)(hx:r.rounds[k]?=some x)(hp:x.2.2.2.2.1=false):y∈aaB r x c↔y∈an r x c:=by unfold aaB;rw[abz hg hw hx hp,eE]
theorem aeh{e:Nat}(hl:∀y,y∈os->f_ r k (toC y)/\yI r (toC y))(hx:r.rounds[k]?=some x)(hp:x.2.2.2.2.1=false)(he:e<os.length):
 rkK (aaX e (os.map fun y=>aaB r x (toC y)) [] fun _=>false) (os.length+1)=(aaF (os.map fun y=>an r x (toC y)) e).map Int.ofNat:=by
 unfold rkK;congr 1;have p:∀L,L∈(os.map fun y=>an r x (toC y))->aaq L:=fun L l=>by obtain⟨y,g,rfl⟩:=eE.1 l;exact aa1 (hl y g).1 (hl y g).2 hx hp
 have i:(os.map fun y=>an r x (toC y)).length=os.length:=ck ..;have u:=fun n=>aeY (n:=n) p (by rw[i];exact he);have a:aaF (os.map fun y=>an r x (toC y)) e=(List.range (os.length+1)).filter (aaf (os.map fun y=>an r x (toC y)) e ((os.map fun y=>an r x (toC y)).getD e [])):=acY i;rw[a];refine List.filter_congr fun n o=>?_;rw[Bool.eq_iff_iff,adN];have h:=u n;rw[a,List.mem_filter]at h;constructor
 ·rintro(b|⟨c,b,d⟩);·cases b
  exact(h.2 ⟨c,b.congr fun y g s hs=>(abT (hl y g).1 (hl y g).2 hx hp).1 hs,d⟩).2
 ·intro b;obtain⟨c,d,j⟩:=h.1 ⟨o,b⟩;exact .inr ⟨c,d.congr fun y g s hs=>(abT (hl y g).1 (hl y g).2 hx hp).2 hs,j⟩
end
section
open Go.RowKit Go.Shelf
attribute [local go_sem] cX
structure TrV where
 ba:Nat
 bt:Nat
 be:Nat
 bo:Nat
 bc:Nat
 bn:Nat
 g:Nat
def TrV.ok(t:TrV):Prop:=t.bc<t.be/\t.be<t.ba/\t.ba<t.g/\t.g<t.bn/\t.bn<t.bo/\t.bo<t.bt
abbrev trF(t:TrV):Value:=.func (.func 15) #[] #[.pointer (some ⟨t.ba,0,none⟩),.pointer (some ⟨t.bt,0,none⟩),.pointer (some ⟨t.be,0,none⟩),.pointer (some ⟨t.bo,0,none⟩),.pointer (some ⟨t.bc,0,none⟩),.pointer (some ⟨t.bn,0,none⟩)]
structure TrS(w0 w:World)(t:TrV)(A:Option Addr)(n cp:Nat)(all:List (List Rt))(e q:Nat)(Ac:Option Addr)(cc:Nat)(f:Nat->Bool):Prop where
 f5:Fr w0 w [(t.ba, [.slice A n cp]),(t.bt, [trF t]),(t.be, [e]),(t.bc, [.slice Ac q cc]),(t.bn, [.slice (some ⟨t.g,0,none⟩) (q+1) (q+1)])]
 fo:Fr w0 w [(t.bo, [true])]
 fg:Fr w0 w [(t.g,aaA q f)]
 al:Sl (List fC) w [t.bo,t.g] A n cp (all.map (·.map jd))
section
variable {w0 w w':World}{t:TrV}{A:Option Addr}{n cp:Nat}{all:List (List Rt)}{e q:Nat}{Ac:Option Addr}{cc:Nat}{f f':Nat→Bool}
theorem TrS.go(h:TrS w0 w t A n cp all e q Ac cc f)(hb:Below w w w'):TrS w0 w' t A n cp all e q Ac cc f:=⟨h.f5.go hb,h.fo.go hb,h.fg.go hb,h.al.go hb⟩
theorem TrS.tick(h:TrS w0 w t A n cp all e q Ac cc f)(ht:t.ok){k:Nat}(hk:k<=q):TrS w0 (w.setCell ⟨t.g,k,none⟩ true) t A n cp all e q Ac cc (fun i=>f i||decide (k=i))/\KpO [t.bo,t.g] w (w.setCell ⟨t.g,k,none⟩ true):=by
 have P:=h.fg.ge _ _ (bz.2 rfl);have j:KpO [t.g] w (w.setCell ⟨t.g,k,none⟩ true):=(KpO.refl _ _).setCell (p:=⟨t.g,k,none⟩) (.inl po) _;have f1:=Fr.qY (L:= []) (b:=t.g) (C:=aaA q f) h.fg (fun c vs d=>by cases d) (abQ hk) true;have H:(aaA q f).set k true=aaA q fun i=>f i||decide (k=i):=by unfold aaA;rw[<-afH hk,nA]
 rw[H]at f1;unfold TrV.ok at ht;exact⟨⟨h.f5.kpo j (fun q a=>by simp at a;omega) (fun b vs d a=>by simp at d a;omega),h.fo.kpo j (fun q a=>by simp at a;omega) (fun b vs d a=>by simp at d a;omega),f1,h.al.keep (j.k.mono fun q a=>by simp at a;simp[a])⟩,j.mono fun q a=>by simp at a;simp[a]⟩
theorem TrS.stay(h:TrS w0 w t A n cp all e q Ac cc f)(ht:t.ok):TrS w0 (w.setCell ⟨t.bo,0,none⟩ true) t A n cp all e q Ac cc f/\KpO [t.bo,t.g] w (w.setCell ⟨t.bo,0,none⟩ true):=by have P:=h.fo.ge _ _ (bz.2 rfl);have i:KpO [t.bo] w (w.setCell ⟨t.bo,0,none⟩ true):=(KpO.refl _ _).setCell (p:=⟨t.bo,0,none⟩) (.inl po) _;have f1:=Fr.qY (L:= []) (b:=t.bo) (C:= [true]) h.fo (fun c vs d=>by cases d) (j:=0) rfl true;unfold TrV.ok at ht;exact⟨⟨h.f5.kpo i (fun q a=>by simp at a;omega) (fun b vs d a=>by simp at d a;omega),f1,h.fg.kpo i (fun q a=>by simp at a;omega) (fun b vs d a=>by simp at d a;omega),h.al.keep (i.k.mono fun q a=>by simp at a;simp[a])⟩,i.mono fun q a=>by simp at a;simp[a]⟩
end
def agb(w0:World)(t:TrV)(A:Option Addr)(n cp:Nat)(all:List (List Rt))(e q:Nat)(Ac:Option Addr)(cc:Nat)(Ls:List (List Rt)):Prop:=∀{ch:List Rt}{f:Nat->Bool}{w:World}{B:Option Addr}{m c:Nat}(k:Nat),ch.length=k->Ls=all.drop k->k<=q->(∀y,y∈ch->yx y 300)->b_ [t.bo,t.g] w->SlR w [t.bo,t.g] B m c ch->TrS w0 w t A n cp all e q Ac cc f->Calls prog 15 #[k,.slice B m c,.pointer (some ⟨t.ba,0,none⟩),.pointer (some ⟨t.bt,0,none⟩),.pointer (some ⟨t.be,0,none⟩),.pointer (some ⟨t.bo,0,none⟩),.pointer (some ⟨t.bc,0,none⟩),.pointer (some ⟨t.bn,0,none⟩)] w fun e' w'=>e'=.returned (.tuple #[])/\TrS w0 w' t A n cp all e q Ac cc (aaX e Ls ch f)/\KpO [t.bo,t.g] w w'
section
variable {w0:World}{t:TrV}{A:Option Addr}{n cp:Nat}{all:List (List Rt)}{e q:Nat}{Ac:Option Addr}{cc:Nat}
theorem afI(ht:t.ok)(he:e<q)(hq:all.length=q)(hq6:q<=6):agb w0 t A n cp all e q Ac cc []:=by
 intro ch f w B m c k hk S hkq ag af hs G;refine wid ?_;have an:k=q:=by
  by_cases h:k<all.length;·rw[cL h]at S;cases S
  omega
 subst an;have hm:m=k:=by have:=hs.len;rw[ck]at this;omega
 subst hm;have hn:n=m:=by have:=G.al.len;rw[ck]at this;omega
 subst hn;obtain⟨P,ab⟩:=dW ch e pj;have ai:ch.getD e zR=P:=by rw[cC,ab];rfl
 obtain⟨r1,r2⟩:=aga (ch:=ch) (e:=e) pj;have o1:=aW G.f5;have o2:=aW G.fo;have H:=oK ag af ab ai hk;have HT:=fB G (KpO.refl [t.bo,t.g] w) hs;have HR:=Hd2 r1 r2;have HH:=Hd ht;clear ag af ab ai S G hs r1 r2 hk ht;refine ent func15 ntmps15 ?_;gi_wp2;clear o1 o2;gi_loopw[12,43] (fun y i wr=>∃j:Nat,j<=n/\i=j/\y=.int .i64 (abS ch e j:Nat)/\Hid (TrS w0 wr t A n cp all e n Ac cc f/\KpO [t.bo,t.g] w wr/\SlR wr [t.bo,t.g] B n c ch)) (fun _ i _=>n-(intOf i).toNat);case atStart=>exact⟨0,cf _,rfl,rfl,HT⟩
 case round=>
  obtain⟨j,hj,rfl,rfl,u⟩:=hrel;obtain⟨V,rfl⟩:∃V,V=wr:=⟨_,rfl⟩;obtain⟨y,D⟩:=aC (abS ch e j);rw[D];have ax:y<=j+1:=by rw[<-D];unfold abS;have h1:=mq (p:=abv (ch.getD e zR)) (l:=ch.take j);rw[cI]at h1;omega
  by_cases aw:j<n
  ·obtain⟨s,hs⟩:=dW ch j (by have:=H.x;omega);have aa:=aeg (e:=e) hs;obtain⟨b,o,p1,q1,A1,n1,c1,B1,m1,d1,e1,⟨g0,g1,g2,g3⟩,hx⟩:=u.v.aaV hs;subst e1;obtain⟨R,ar,C,F⟩:=fP (w:=V) ((Fr.nil V).a V [p1,.slice A1 n1 c1,q1,.slice B1 m1 d1] 48);obtain⟨b',o',p2,q2,A2,n2,c2,B2,m2,d2,e2,⟨y0,y1,y2,y3⟩,hy⟩:=(u.v.go C).aaV H.c;cases e2;have T:=u.a.go C;have k2:=u.b.trans (KpO.of_below C _);have aj:=u.v.go C;have x0:=ah (T.f5.aQ 2 0);have x1:=ah (F.aQ 0 0);have x2:=ah (F.aQ 0 1);have x3:=ah (F.aQ 0 2);have x4:=ah (F.aQ 0 3);have z0:=ah y0;have z1:=ah y1;have z2:=ah y2;have z3:=ah y3;have oa:=H.a s (bh hs);have ob:=H.a P (bh H.c);have X:=WZ (w:=R.drew) (M:= [t.bo,t.g]) (a:=s) (b:=P) (fun q hq=>bX (H.b q hq) k2.k.size) ((hx.go C).go pE.drew).qw (hy.go pE.drew).qw oa.ok ob.ok ((oa.sh pj).fine (ob.sh pj));obtain⟨z,hz⟩:=aC (rW s P);rw[hz]at X;rw[H.d,hz,D]at aa;have HX:=Hd X;have ac:=Hd aa;have Q:=fB T k2 aj;have av:((e:Nat):Int)<((n:Nat):Int):=pj;clear X aa T k2 aj oa ob hy hx F C hs u D hz y0 y1 y2 y3;gi_wp2;clear g0 g1 g2 g3;refine ak [] [0,1,2,3,4,5,6,7,8,9,10] pk pk ?_;refine eH ?_;refine aH fun K hK=>aA rfl rfl wy fun K' ae=>?_;gi_wp2;refine Cl 14 HX.out ?_;rintro e' w5 ⟨rfl,Y⟩;have N:=(bL R R).drew.trans Y;have W:=Q.a.go N;obtain⟨I,E⟩:=W.stay HH.out;have ad:=fB I ((Q.b.trans (KpO.of_below N _)).trans E) ((Q.v.go N).keep E.k);have o2:=aW W.fo;clear W I E N;refine ae _ _ ⟨?_,hK _ _ ?_⟩;clear ae K' hK K;·exact bq Y _
   clear Y;refine lit ?_;refine eH ?_;refine aK ?_;refine lit ?_;by_cases O:0<z
   ·have ao:decide (z>0)=true:=cx O;have az:IntKind.i64.wrap ((y:Nat)+1)=((y+1:Nat):Int):=by rw[cA];omega
    gi_wp2;exact⟨⟨j+1,pj,by go_num,by rw[ac.out,if_pos O];go_num,ad⟩,by simp[intOf];omega⟩
   have ao:decide (z>0)=false:=cE O;gi_wp2;exact⟨⟨j+1,pj,by go_num,by rw[ac.out,if_neg O],ad⟩,by simp[intOf];omega⟩
  ·obtain rfl:j=n:=pj;have Z:aaH ch e=y:=by rw[<-D,<-H.x,aeZ]
   have J:=HR.out;rw[Z,H.x]at J;have o1:=aW u.a.f5;have am:=u.a.fg.at_ _ _ (bz.2 rfl) y _ (abQ (q:=j) (f:=f) J.2);obtain⟨ap,aq⟩:=am;have au:decide (((y:Nat):Int)>((j:Nat):Int))=false:=cE pj;obtain⟨I,E⟩:=u.a.tick HH.out (k:=y) J.2;have HE:=Hd2 (show TrS w0 _ t A j cp all e j Ac cc (aaX e [] ch f) by rw[aaX,Z];exact I) (u.b.trans E);have ay:y<j+1:=pj;clear u D Z I E J;gi_wp2;go_end0;exact⟨rfl,HE.out⟩
end
end
section
open Go.RowKit Go.Shelf
theorem QC.rdx{w:World}{x:Rt}{p q:Bool}{A:Option Addr}{n d:Nat}(h:QC w M x p q A n c B m d):Rep.rd w M (jd x) [p,.slice A n c,q,.slice B m d]:=by have H:(jd x).1.1=p:=h.num.neg;have O:(jd x).2.1=q:=h.den.neg;rw[<-H,<-O];exact JB (x:=jd x) h.num.sl h.den.sl
theorem QC.afJ{w:World}{r:Rt}{p q:Bool}{A B:Option Addr}{n c m d:Nat}{M:List Nat}(h:QC w M r p q A n c B m d):∀(L:List Nat),(∀k,k∈L->w.heap.size<=k)->QC w (L++M) r p q A n c B m d
 | [],_=>h
 |k::L,hk=>(h.afJ L (fun q hq=>hk q (bE _ hq))).more (hk k cw)
theorem ap5{Y:World}{l0:Nat}(h:bD fC 48 Y M sb (.slice (some ⟨l0,0,none⟩) 0 0) 0 [])(hb:sb<=Y.heap.size)(hc:Sl fC Y (l0::M) B m c cs)(hm:m<=100):
 ∃A5 c5 Y',(Builtin.append_ #[37,37] 37 #[.slice (some ⟨l0,0,none⟩) 0 0,.slice B m c]).run prog Y=.ok (.slice A5 m c5) Y'/\bD fC 48 Y' M sb (.slice A5 m c5) m cs/\(∀X,Below sb X Y->X.heap.size=sb->Below sb X Y')/\Y.heap.size<=Y'.heap.size/\(∀b7 x,Sl fC Y (l0::M) b7 1 1 [x]->Sl fC Y' (bP (.slice A5 m c5)++M) b7 1 1 [x]):=by
 obtain⟨i,z,u,v,y,C,D⟩:=Iq;have p:=h.lt (k:=l0) rfl;obtain⟨F,Y',E,T,g,d⟩:=h.uy (ty:=37) (t:=37) hb underlying37 u v y C (hc.less (fun q a=>by
  rcases cK.1 a with a|a;·have e:=bJ.1 a;cases e;simp
  simp[a])) (by have:=fS (show 0+m<=100 by omega) D;omega) pj
 rw[dC,df]at T;obtain⟨A5,c5,rfl⟩:=T.shape;refine⟨A5,c5,Y',E,T,fun X o hs=>o.grown g pj (fun k j=>by cases j;exact p.1),g.size,fun b7 x hx=>?_⟩;have l:=(hx.more (b:=Y) pD).keep (w':=Y') ⟨g.size,fun k j s=>g.block k j (fun e=>s (by cases e;simp))⟩;refine l.less fun q a=>?_;rcases cK.1 a with a|a
 ·have e:=bJ.1 a;rcases d with d|d;·rw[d]at e;cases e;simp
  rw[d]at e;cases e;simp
 ·simp[a]
theorem ap8{Z:World}{v5:Value}{b7:Option Addr}{x:fC}(h:bD fC 48 Z M sb v5 m cs)(hb:sb<=Z.heap.size)(hx:Sl fC Z (bP v5++M) b7 1 1 [x])(hm:m<=100)(hM:∀q,q∈M->q<sb):
 ∃A8 c8 Z',(Builtin.append_ #[37,37] 37 #[v5,.slice b7 1 1]).run prog Z=.ok (.slice A8 (m+1) c8) Z'/\Sl fC Z' M A8 (m+1) c8 (cs++ [x])/\(∀X,Below sb X Z->X.heap.size=sb->Below sb X Z')/\Z.heap.size<=Z'.heap.size:=by
 obtain⟨i,z,g,j,l,o,p⟩:=Iq;obtain⟨v,Z',s,T,a,u⟩:=h.uy (ty:=37) (t:=37) hb underlying37 g j l o hx (by have:=fS (show m+1<=101 by omega) p;omega) pj;obtain⟨A8,c8,rfl,hs⟩:=T.sl pj hM;exact⟨A8,c8,Z',s,hs,fun X b hs=>b.grown a pj (fun k d=>(h.lt d).1),a.size⟩
namespace U
open Go.RowKit Go.Shelf
attribute [local go_sem] cX
section
variable {w0:World}{t:TrV}{A:Option Addr}{n cp:Nat}{all:List (List Rt)}{e q:Nat}{Ac:Option Addr}{cc:Nat}{L:List Rt}{Ls:List (List Rt)}
theorem afK(hq:all.length=q)(hq6:q<=6)(hsz:∀K,K∈all->K.length<=400/\∀y,y∈K->yx y 300)(ih:agb w0 t A n cp all e q Ac cc Ls):agb w0 t A n cp all e q Ac cc (L::Ls):=by
 intro ch f w B m c k hk hL hkq aB av hs hT;refine wid ?_;have aD:k<all.length:=by
  by_cases h:k<all.length;·exact h
  rw[cB pj]at hL;cases hL
 rw[cL aD]at hL;injection hL with hL hLs;have aw:all[k]?=some L:=by rw[cd aD,hL]
 have hsz:=hsz L (bh aw);have hm:m=k:=by have:=hs.len;rw[ck]at this;omega
 have hn:n=q:=by have:=hT.al.len;rw[ck]at this;omega
 subst hm;subst hn;obtain⟨b,o,es,rfl,⟨A2,n2,c2,rfl,h1⟩,h2⟩:=hT.al.get (x:=L.map jd) (by rw[cM,aw];rfl);have c0:w.cell? ⟨b,o+m,none⟩=some (.slice A2 n2 c2):=by exact Zo
 have aK:L.length=n2:=by have:=h1.len;rwa [ck]at this
 have o1:=aW hT.f5;have HS:=fB hs h1 hsz.2;have aM:=Hd av;have ap:=Hd (fun(_:Unit)=> @ih);have p:=h_ hk aB (show ∀q,q∈ [t.bo,t.g]->q<w.heap.size from av) (show m<n by omega);have HT:=Hd2 hT (KpO.refl [t.bo,t.g] w);have aN:n2<=400:=by rw[<-aK];exact hsz.1
 clear hs h1 h2 hsz aB av ih hT aw hL;refine ent func15 ntmps15 ?_;gi_wp2;clear o1 c0;gi_loopw[26] (fun i wr=>∃j:Nat,j<=n2/\i=.int .i64 j/\Hid (TrS w0 wr t (some ⟨b,o,none⟩) n cp all e n Ac cc ((L.take j).foldl (fun g s=>aaX e Ls (ch++ [s]) g) f)/\KpO [t.bo,t.g] w wr)) (fun i _=>n2-(intOf i).toNat);case atStart=>exact⟨0,cf _,rfl,HT⟩
 case round=>
  obtain⟨j,hj,rfl,Q⟩:=hrel;obtain⟨V,rfl⟩:∃V,V=wr:=⟨_,rfl⟩;by_cases aR:j<n2
  ·obtain⟨s,hs⟩:=dW L j pj;obtain⟨F0,au⟩:=aC ((L.take j).foldl (fun g s=>aaX e Ls (ch++ [s]) g) f);have ar:=Hd (show(L.take (j+1)).foldl (fun g s=>aaX e Ls (ch++ [s]) g) f=aaX e Ls (ch++ [s]) F0 by rw[dm,hs,List.foldl_append,au];rfl);rw[au]at Q;have aE:=HS.b.keep Q.u.k;obtain⟨b3,o3,p1,q1,A1,n1,c1,B1,m1,d1,e1,⟨g0,g1,g2,g3⟩,hx⟩:=Sl.aaV aE hs;subst e1;obtain⟨W2,aO,ag,F2⟩:=fP (w:=V) ((Fr.nil V).a V [.bool p1,.slice A1 n1 c1,.bool q1,.slice B1 m1 d1] 48);obtain⟨sb,ad⟩:=aC W2.heap.size;have aG:w.heap.size<=sb:=by rw[<-ad];exact cF Q.u.k.size ag.size
   have aq:=Hd (HS.v s (bh hs));obtain⟨C,ao⟩:=aC W2.drew;have ak:Below W2 W2 C:=by rw[<-ao];exact pE.drew
   have l:=Hd (show C.heap.size=sb by rw[<-ao];exact ad);replace HT:=Hd2 ((Q.a.go ag).go ak) ((Q.u.trans (KpO.of_below ag _)).trans (KpO.of_below ak _));replace p:=h_ p.a p.b (show ∀q,q∈ [t.bo,t.g]->q<sb from fun q hq=>bX (p.c q hq) aG) p.w;have aA:Sl fC C [t.bo,t.g] B m c (ch.map jd):=((HS.a.keep Q.u.k).go ag).go ak;have aF:QC C [t.bo,t.g] s p1 q1 A1 n1 c1 B1 m1 d1:=(hx.go ag).go ak;have HD:=Hd2 aA aF;have u0:=bQ ad ((Q.a.go ag).f5.aQ 1 0);have u1:=bQ ad (F2.aQ 0 0);have u2:=bQ ad (F2.aQ 0 1);have u3:=bQ ad (F2.aQ 0 2);have u4:=bQ ad (F2.aQ 0 3);have yT:=Hd ao;clear aE hx F2 ag ak aA aF hs Q au ao ad;gi_wp2;clear g0 g1 g2 g3;refine aP sb 9 pk pk ?_;refine ay 0 ?_;refine ay 1 ?_;refine ay 2 ?_;refine ay 4 ?_;refine ay 6 ?_;rw[yT.out];have aH:b_ [t.bo,t.g] C:=fun q hq=>by rw[l.out];exact p.c q hq
   obtain⟨T,am⟩:=aC (C.alloc (.cells #[] 48));have b3:Below C C T:=by rw[<-am];exact bel
   have z3:T.heap.size=sb+1:=by rw[<-am,<-l.out];simp
   obtain⟨W,an⟩:=aC (C.alloc (.cells #[p1,.slice A1 n1 c1,q1,.slice B1 m1 d1] 48));have b7:Below C C W:=by rw[<-an];exact bel
   have z7:W.heap.size=sb+1:=by rw[<-an,<-l.out];simp
   have l3:bD fC 48 T [t.bo,t.g] sb (.slice (some ⟨sb,0,none⟩) 0 0) 0 []:=by
    have h:=bD.lit (α:=fC) (e:=48) C [t.bo,t.g] (base:=sb) (by rw[l.out];exact bj _)
    rwa [l.out,am]at h
   have s7:Sl fC W [t.bo,t.g] (some ⟨sb,0,none⟩) 1 1 [jd s]:=by have h:=acg aH 48 HD.u.rdx;rw[l.out]at h;rw[<-an];exact h
   have I:=fB b3 z3 l3;have ae:=fB b7 z7 s7;clear b3 z3 l3 b7 z7 s7;have ax:m<=100:=by have:=p.w;omega
   refine oQ 3 [7] pk (dN pt rfl ?_ (fun K d=>?_) (dN pt rfl ?_ (fun K d=>?_) gU));·exact wy
   rotate_left;·exact wy
   rotate_left
   ·gi_wp2;(try rw[am]);refine⟨bq I.a _,?_⟩;refine lit ?_;(try rw[l.out]);refine oQ 5 [7] pk (dN pt rfl ?_ (fun K d=>?_) (dN pt rfl ?_ (fun K d=>?_) gU));·exact wy
    rotate_left;·exact wy
    rotate_left
    ·have S:Below sb C T:=by have h:=I.a;rwa [l.out]at h
     obtain⟨A5,c5,J,r5,X,f5,Y,-⟩:=ap5 I.v (by rw[I.b];omega) ((HD.a.more (b:=sb) (by rw[l.out];exact bj _)).go I.a) ax;have O:=f5 _ S l.out;have ab:=Hd2 r5 (show Keeps sb T J from⟨Y,fun q hq hs=>(O.block q hs).trans (S.block q hs).symm⟩);obtain⟨F,R⟩:=aC (J.alloc (.cells #[p1,.slice A1 n1 c1,q1,.slice B1 m1 d1] 48));have z:Below J J F:=by rw[<-R];exact bel
     have hys:sb<=J.heap.size:=by have:=I.b;omega
     have az:Below C C J:=by rw[l.out];exact O
     have H:Sl fC F (bP (.slice A5 m c5)++ [t.bo,t.g]) (some ⟨J,0,none⟩) 1 1 [jd s]:=by
      have h:=acg (w:=J) (M:=bP (.slice A5 m c5)++ [t.bo,t.g]) (fun q hq=>by
       rcases cK.1 hq with hq|hq;·exact(X.lt (bJ.1 hq)).2
       exact bX (p.c q hq) hys) 48 ((HD.u.afJ (bP (.slice A5 m c5)) (fun q hq=>by rw[l.out];exact(X.lt (bJ.1 hq)).1)).go az).rdx
      rw[<-R];exact h
     have E:=h_ (X.go z) (show sb<=F.heap.size from cF hys z.size) (O.trans (z.mono hys)) H;have HB:=Hd z;clear r5 X f5 Y O z az H S hys;refine aI _ _ _ rfl rfl rfl ab.a (d _ _ ⟨ab.u,?_⟩);clear d K;refine lit ?_;refine eU 7 fun K d=>?_;gi_wp2;(try rw[R]);refine⟨bq HB.out _,?_⟩;refine lit ?_;obtain⟨Z,c8,P,r8,H,z,z8⟩:=ap8 E.a E.b E.w (by have:=p.w;omega) p.c;have G:=z _ E.c l.out;have ai:=Hd (ap.out () (f:=F0) (ch:=ch++ [s]) (w:=P) (B:=Z) (m:=m+1) (c:=c8) (m+1) (by simp;exact p.a) hLs (by have:=p.w;omega) (fun y D=>by exact ES) (fun q hq=>bX (bX (p.c q hq) pD) (by have:=G.size;have:=l.out;omega)) (by exact EW) (HT.a.go (by rw[l.out];exact G)));have aa:=Hd (And.intro G (show Keeps sb _ P from⟨z8,fun q hq hs=>(G.block q hs).trans (E.c.block q hs).symm⟩));have ah:=Hd r8;clear r8 H z z8 G;refine oQ 8 [] pk (dN pt rfl ?_ (fun K d=>?_) gU);·exact wy
     refine aI _ _ _ rfl rfl rfl ah.out (d _ _ ⟨aa.u,?_⟩);clear d K;refine lit ?_;refine iq 1 ?_;refine jW fun K d K' ac=>?_;gi_wp2;refine Cl 15 ai.out ?_;rintro e' w9 ⟨rfl,N,k9⟩;have aj:=Hd2 N ((HT.u.trans (KpO.of_below (by rw[l.out];exact aa.a) _)).trans k9);clear N k9;refine ac _ _ (d _ _ ?_);clear ac K' d K;refine lit ?_;refine et _ ?_;simp only[cu];gi_wp2;exact⟨⟨j+1,pj,by go_num,by rw[ar.out];exact aj⟩,by simp[intOf];omega⟩
    obtain⟨F,R⟩:=aC (T.alloc (.cells #[p1,.slice A1 n1 c1,q1,.slice B1 m1 d1] 48));have z:Below T T F:=by rw[<-R];exact bel
    have af:Below C C F:=I.a.trans (z.mono I.a.size);have S:Below sb C F:=by have h:=af;rwa [l.out]at h
    have H:Sl fC F (sb:: [t.bo,t.g]) (some ⟨T,0,none⟩) 1 1 [jd s]:=by
     have h:=acg (w:=T) (M:= [sb]++ [t.bo,t.g]) (fun q hq=>by
      rw[I.b];rcases cK.1 hq with hq|hq;·rw[bz]at hq;omega
      have:=p.c q hq;omega) 48 ((HD.u.afJ [sb] (fun q hq=>by rw[bz]at hq;rw[l.out];omega)).go I.a).rdx
     rw[<-R];exact h
    have hys:sb<=F.heap.size:=by have:=I.b;have:=z.size;omega
    obtain⟨A5,c5,J,r5,X,f5,Y,g5⟩:=ap5 (I.v.go z) hys ((HD.a.more (b:=sb) (by rw[l.out];exact bj _)).go af) ax;have O:=f5 _ S l.out;have ab:=Hd2 r5 (show Keeps sb F J from⟨Y,fun q hq hs=>(O.block q hs).trans (S.block q hs).symm⟩);have E:=h_ X (cF hys Y) O (g5 _ _ H);have HB:=Hd z;clear r5 X f5 Y O z af H S hys g5;gi_wp2;(try rw[R]);refine⟨bq HB.out _,?_⟩;refine lit ?_;refine oQ 5 [] pk (dN pt rfl ?_ (fun K d=>?_) gU);·exact wy
    refine aI _ _ _ rfl rfl rfl ab.a (d _ _ ⟨ab.u,?_⟩);clear d K;refine lit ?_;obtain⟨Z,c8,P,r8,H,z,z8⟩:=ap8 E.a E.b E.w (by have:=p.w;omega) p.c;have G:=z _ E.c l.out;have ai:=Hd (ap.out () (f:=F0) (ch:=ch++ [s]) (w:=P) (B:=Z) (m:=m+1) (c:=c8) (m+1) (by simp;exact p.a) hLs (by have:=p.w;omega) (fun y D=>by exact ES) (fun q hq=>bX (bX (p.c q hq) pD) (by have:=G.size;have:=l.out;omega)) (by exact EW) (HT.a.go (by rw[l.out];exact G)));have aa:=Hd (And.intro G (show Keeps sb _ P from⟨z8,fun q hq hs=>(G.block q hs).trans (E.c.block q hs).symm⟩));have ah:=Hd r8;clear r8 H z z8 G;refine oQ 8 [] pk (dN pt rfl ?_ (fun K d=>?_) gU);·exact wy
    refine aI _ _ _ rfl rfl rfl ah.out (d _ _ ⟨aa.u,?_⟩);clear d K;refine lit ?_;refine iq 1 ?_;refine jW fun K d K' ac=>?_;gi_wp2;refine Cl 15 ai.out ?_;rintro e' w9 ⟨rfl,N,k9⟩;have aj:=Hd2 N ((HT.u.trans (KpO.of_below (by rw[l.out];exact aa.a) _)).trans k9);clear N k9;refine ac _ _ (d _ _ ?_);clear ac K' d K;refine lit ?_;refine et _ ?_;simp only[cu];gi_wp2;exact⟨⟨j+1,pj,by go_num,by rw[ar.out];exact aj⟩,by simp[intOf];omega⟩
   obtain⟨F,R⟩:=aC (W.alloc (.cells #[] 48));have z:Below W W F:=by rw[<-R];exact bel
   have af:Below C C F:=ae.a.trans (z.mono ae.a.size);have S:Below sb C F:=by have h:=af;rwa [l.out]at h
   have hys:sb<=F.heap.size:=by have:=ae.b;have:=z.size;omega
   have l8:bD fC 48 F [t.bo,t.g] sb (.slice (some ⟨W,0,none⟩) 0 0) 0 []:=by
    have h:=bD.lit (α:=fC) (e:=48) W [t.bo,t.g] (base:=sb) (by rw[ae.b];omega)
    rwa [R]at h
   obtain⟨A5,c5,J,r5,X,f5,Y,g5⟩:=ap5 l8 hys ((HD.a.more (b:=W) ae.a.size).go af) ax;have O:=f5 _ S l.out;have ab:=Hd2 r5 (show Keeps sb F J from⟨Y,fun q hq hs=>(O.block q hs).trans (S.block q hs).symm⟩);have E:=h_ X (cF hys Y) O (g5 _ _ ((ae.v.more (b:=W) pD).go z));have HB:=Hd z;clear r5 X f5 Y O z af S hys g5 l8;gi_wp2;(try rw[an]);refine⟨bq ae.a _,?_⟩;refine lit ?_;(try rw[l.out]);refine eU 3 fun K d=>?_;gi_wp2;(try rw[R]);refine⟨bq HB.out _,?_⟩;refine lit ?_;refine oQ 5 [] pk (dN pt rfl ?_ (fun K d=>?_) gU);·exact wy
   refine aI _ _ _ rfl rfl rfl ab.a (d _ _ ⟨ab.u,?_⟩);clear d K;refine lit ?_;obtain⟨Z,c8,P,r8,H,z,z8⟩:=ap8 E.a E.b E.w (by have:=p.w;omega) p.c;have G:=z _ E.c l.out;have ai:=Hd (ap.out () (f:=F0) (ch:=ch++ [s]) (w:=P) (B:=Z) (m:=m+1) (c:=c8) (m+1) (by simp;exact p.a) hLs (by have:=p.w;omega) (fun y D=>by exact ES) (fun q hq=>bX (bX (p.c q hq) pD) (by have:=G.size;have:=l.out;omega)) (by exact EW) (HT.a.go (by rw[l.out];exact G)));have aa:=Hd (And.intro G (show Keeps sb _ P from⟨z8,fun q hq hs=>(G.block q hs).trans (E.c.block q hs).symm⟩));have ah:=Hd r8;clear r8 H z z8 G;refine oQ 8 [] pk (dN pt rfl ?_ (fun K d=>?_) gU);·exact wy
   refine aI _ _ _ rfl rfl rfl ah.out (d _ _ ⟨aa.u,?_⟩);clear d K;refine lit ?_;refine iq 1 ?_;refine jW fun K d K' ac=>?_;gi_wp2;refine Cl 15 ai.out ?_;rintro e' w9 ⟨rfl,N,k9⟩;have aj:=Hd2 N ((HT.u.trans (KpO.of_below (by rw[l.out];exact aa.a) _)).trans k9);clear N k9;refine ac _ _ (d _ _ ?_);clear ac K' d K;refine lit ?_;refine et _ ?_;simp only[cu];gi_wp2;exact⟨⟨j+1,pj,by go_num,by rw[ar.out];exact aj⟩,by simp[intOf];omega⟩
  ·obtain rfl:j=n2:=pj;have N:=Q.a;rw[bR pj]at N;have HE:=Hd2 N Q.u;clear Q N;gi_wp2;refine⟨rfl,.tuple #[],?_,rfl,HE.out⟩;first|rfl|simp[results,go_sem]|trace_state
theorem try_any(ht:t.ok)(he:e<q)(hq:all.length=q)(hq6:q<=6)(hsz:∀K,K∈all->K.length<=400/\∀y,y∈K->yx y 300):∀Ls,agb w0 t A n cp all e q Ac cc Ls
 | []=>afI ht he hq hq6
 |_::Ls=>afK hq hq6 hsz (try_any ht he hq hq6 hsz Ls)
end
end U
attribute [local go_sem] cX
theorem acZ:∀{l:List Nat},(∀y,y∈l->0<y)->0<l.prod
 | [],_=>by simp
 |a::l,h=>by rw[List.prod_cons];exact Nat.mul_pos (h a cw) (acZ fun y hy=>h y (bE _ hy))
theorem aes:∀{l:List Nat}{x:Nat},(∀y,y∈l->0<y)->x∈l->x<=l.prod
 |a::l,x,h,hx=>by
  have h1:=h a cw;have h2:0<l.prod:=acZ (fun y hy=>h y (bE _ hy));rw[List.prod_cons];rcases cD.1 hx with rfl|hx;·exact mT _ h2
  exact cF (aes (fun y hy=>h y (bE _ hy)) hx) (Nat.le_mul_of_pos_left _ h1)
structure LaB(w V:World)(r:aS)(s1 s2 s3 s4 s5 s6 s7:dK)(A:Option Addr)(n cp:Nat)(os:List aL)(en:Int):Prop where
 t:Tab V
 rl:dG V [] r s1 s2 s3 s4 s5 s6 s7
 cs:Sl aL V [] A n cp os
 fr:Fr w V [(w,aV r s1 s2 s3 s4 s5 s6 s7),(w+1, [.slice A n cp]),(w+2, [en])]
theorem LaB.go{w V V':World}{r:aS}{s1 s2 s3 s4 s5 s6 s7:dK}{A:Option Addr}{n cp:Nat}{os:List aL}{en:Int}(h:LaB w V r s1 s2 s3 s4 s5 s6 s7 A n cp os en)(hb:Below V V V'):LaB w V' r s1 s2 s3 s4 s5 s6 s7 A n cp os en:=⟨tab_below h.t hb,h.rl.go hb,h.cs.go hb,h.fr.go hb⟩
theorem LaB.st{w V:World}{r:aS}{s1 s2 s3 s4 s5 s6 s7:dK}{A:Option Addr}{n cp:Nat}{os:List aL}(h:LaB w V r s1 s2 s3 s4 s5 s6 s7 A n cp os en):St V (fun U=>LaB w U r s1 s2 s3 s4 s5 s6 s7 A n cp os en):=by unfold St;exact fun U a=>h.go a
theorem Sl.aiW{w:World}{A:Option Addr}{n k:Nat}{ls:List (List Rt)}{l:List Rt}(h:Sl (List fC) w M A n c (ls.map (·.map jd)))(hk:ls[k]?=some l):∃b o B m d,A=some ⟨b,o,none⟩/\w.cell? ⟨b,o+k,none⟩=some (.slice B m d)/\SlR w M B m d l:=by obtain⟨b,o,g,rfl,⟨B,m,d,rfl,a⟩,h2⟩:=h.get (x:=l.map jd) (by rw[cM,hk];rfl);exact⟨b,o,B,m,d,rfl,by exact Zo,a⟩
theorem afL:(prog.info? 37).map (fun i=>(i.zero,i.size,i.bytes))=some (some (.slice none 0 0),1,24):=pk
theorem ae1:iU 37 (Rep.sz (List fC)):=iU.mk' afL rfl pj
section
variable {w:World}{r:aS}{s1 s2 s3 s4 s5 s6 s7:dK}{A:Option Addr}{n cp:Nat}{os:List aL}
theorem adl{i:Int}(hr:dG w [] r s1 s2 s3 s4 s5 s6 s7)(hcs:Sl aL w [] A n cp os)(ht:Tab w):
 CB 3 #[.agg (aV r s1 s2 s3 s4 s5 s6 s7).toArray,i,.slice A n cp,en] true w:=by
 refine wid ?_;obtain⟨W1,cb,F1⟩:=dR ((((Fr.nil w).a w (aV r s1 s2 s3 s4 s5 s6 s7) 28).a (w+1) [.slice A n cp] 29).a (w+2) [en] 3);have o1:=aW F1;have J:=Hd (LaB.st ⟨tab_below ht F1.bl,hr.go F1.bl,hcs.go F1.bl,F1⟩);have aw:os.length=n:=hcs.len;have aG:=fB hr hcs ht;clear F1 hr hcs ht;refine ent func3 ntmps3 ?_;gi_wp2;refine Cl 5 (aeb J.out.at_.t) ?_;rintro e w2 ⟨rfl,hb⟩;replace J:=Hd (J.out.go hb);clear hb o1;have o1:=aW J.out.at_.fr;gi_wp2;refine Cl 6 (aeW J.out.at_.rl J.out.at_.cs (b_.nil _)) ?_;intro e w3 hw;obtain⟨b,rfl,hP,hb⟩:=hw.of;replace J:=Hd (J.out.go hb);clear hb hw o1;have o1:=aW J.out.at_.fr;cases b;·exact ET
 replace hP:=hP rfl;have h6:n<=6:=by rw[<-aw];exact hP.1
 gi_wp2;refine Cl 7 (afE (i:=i) (en:=en) J.out.at_.rl J.out.at_.cs (b_.nil _) h6) ?_;intro e w4 hw;obtain⟨kc,rfl,hE,hb⟩:=hw.of;replace J:=Hd (J.out.go hb);clear hb hw o1;have o1:=aW J.out.at_.fr;rcases MO kc with rfl|cj;rotate_left;·exact ET
 have hE:=hE rfl;obtain⟨k,x,e,rfl,rfl,he,K⟩:=ahC hP hE (fun h=>by obtain⟨-,k,x,e,-,-,-,-,-,he⟩:=hE;rw[h]at he;exact absurd he po);have g:=Hd K;rw[aw]at he;obtain⟨Z,hZ⟩:=aC (abg 400 r.aT (os.map (·.1)) 1);have X:=ae0 (lim:=400) J.out.at_.rl J.out.at_.cs g.out.snd.2.1.aT (fun y hy=>pf (abL (g.out.hc y hy).1)) pj;rw[hZ]at X;have HX:=Hd X;clear hP hE K X;gi_wp2;refine Cl 8 HX.out ?_;rintro e' w5 ⟨rfl,hb⟩;replace J:=Hd (J.out.go hb);clear hb HX o1;have o1:=aW J.out.at_.fr;by_cases hz:Z<=400;rotate_left;·have bb:decide (Z>400)=true:=cx pj;exact ET
 have bb:decide (Z>400)=false:=cE pj;have bt:∀y,y∈os->aae r (toC y)<=400:=fun y hy=>by have h:=adO (lim:=400) pj g.out.snd.2.1.aT (L:=os.map (·.1)) (n:=1) pj (by rw[hZ];exact hz);rw[hZ,Int.one_mul]at h;have h2:=aes (l:=(os.map (·.1)).map fun s=>manyN r.aT (aa 0 s)) (fun z hz=>by obtain⟨s,-,rfl⟩:=eE.1 hz;exact aaP _ _) (eE.2 ⟨y.1,eE.2 ⟨y,hy,rfl⟩,rfl⟩);show manyN r.aT (aa 0 y.1)<=400;omega
 have HM:=Hd bt;clear bt hZ;have X:=Hd (abp (e:=e) J.out.at_.rl J.out.at_.cs g.out.hc g.out.snd J.out.at_.t g.out.hx g.out.hp g.out.hf g.out.hl g.out.cl g.out.kl he h6);gi_wp2;refine Cl 9 X.out ?_;clear X;rintro e' w6 ⟨h1,hb⟩;obtain⟨-,Bl,ml,dl,rfl,aD⟩:=h1.resolve_right (fun h=>by obtain⟨⟨u,hu,h5⟩,-⟩:=h;have:=HM.out u hu;omega);replace J:=Hd ((J.out.go hb).add (fun V hV=>aD.go hV));clear h1 hb aD bb o1 hz;gi_wp2;have bd:Below w6 w6 w6.drew:=pE.drew;replace J:=Hd (J.out.go bd);obtain⟨y,hy⟩:=dW os e pj;obtain⟨bk,ok,x1,x2,x3,x4,ek,⟨y0,y1,F,y3⟩,hcd⟩:=J.out.at_.2.cs.abb hy;subst ek;simp only[dK.v]at y0 y1 F y3;replace y0:=stays y0;replace y1:=stays y1;replace F:=stays F;replace y3:=stays y3;have E:=ab7 J.out.at_.2.fr;obtain⟨G,I,T⟩:=g.out.hc y (bh hy);have X:=Hd (abo J.out.at_.2.rl hcd G I T J.out.at_.2.t g.out.hx g.out.hp g.out.hf g.out.hl g.out.cl g.out.kl);have HY:=Hd hy;clear bd hcd G I T hy;refine aP [] 11 pk pk ?_;refine ay 0 ?_;refine ay 1 ?_;refine ay 2 ?_;refine ay 3 ?_;refine ay 4 ?_;refine ay 5 ?_;refine eU 6 fun K hK=>?_;gi_wp2;refine Cl 10 X.out ?_;clear X;rintro e' O ⟨h1,hb⟩;obtain⟨-,As,ns,cs,rfl,bE⟩:=h1.resolve_right (fun h=>by have:=HM.out y (bh HY.out);omega);replace J:=Hd ((J.out.go hb).add (fun V hV=>bE.go hV));refine hK _ _ ⟨?_,?_⟩;clear hK K;·exact bq hb _
 clear hb h1 bE;refine lit ?_;refine ay 7 ?_;refine ay 8 ?_;refine ay 9 ?_;refine ay 10 ?_;clear E y0 y1 F y3;have F7:=J.out.at_.2.2.fr;obtain⟨W8,cd,a3,F8⟩:=fP (w:=O) (F7.a O [.slice none 0 0] 43);have ci:=F7.mJ 2;have V0:=Hd (VbR.nil (α:=List fC) (e:=37) (M:= []) (j:=0) (L:= [(w.heap.size,aV r s1 s2 s3 s4 s5 s6 s7),(w.heap.size+1, [.slice (some ⟨bk,ok,none⟩) n cp]),(w.heap.size+2, [e])]) (bl:=O.heap.size) (C:=fun v=> [v]) F8 (fun b vs hm=>by have:=F7.mJ 2;simp at hm;omega) (b_.nil _) (fun _=>rfl) (fun _ _=>rfl));have HL:=Hd2 ((J.out.at_.2.1.more (b:=O) pD).go a3) ((J.out.at_.1.more (b:=O) pD).go a3);have o8:=aW F8;clear F7 F8 a3 J;refine iq 1 ?_;refine jW fun K hK K' W=>?_;gi_wp2;refine et _ ?_;simp only[cu];gi_wp2;clear o8;gi_loopw[93] (fun i wr=>∃(a:Nat) (v:Value),a<=n/\i=a/\Hid (VbR (List fC) 37 [] w W8 [(w,aV r s1 s2 s3 s4 s5 s6 s7),(w+1, [.slice (some ⟨bk,ok,none⟩) n cp]),(w+2, [e])] O.heap.size 0 (fun v=> [v]) v ((os.take a).map fun y=>(aaB r x (toC y)).map jd) wr)) (fun i _=>n-(intOf i).toNat);case atStart=>exact⟨0,_,cf _,rfl,V0⟩
 case round=>
  obtain⟨a,v,ha,rfl,hV⟩:=hrel;obtain⟨V,rfl⟩:∃V,V=wr:=⟨_,rfl⟩;by_cases cn:a<n
  ·obtain⟨F,ap⟩:=dW os a pj;have aM:=bh ap;obtain⟨G,I,T⟩:=g.out.hc F aM;obtain⟨b,o,t1,t2,t3,t4,ek,⟨v0,v1,v2,v3⟩,hcd⟩:=aG.b.abb ap;cases ek;have aQ:=fun{p:Addr}{u:Value}(h:w.cell? p=some u)=>(hV.out.fr.bl.cell (bw w p h)).trans h;replace v0:=aQ v0;replace v1:=aQ v1;replace v2:=aQ v2;replace v3:=aQ v3;obtain⟨W9,cg,Ns,F9⟩:=fP (w:=V) ((Fr.nil V).a V (dI t1 t2 t3 t4) 42);have ag:=hV.out.go Ns;have hN:=ag.ge;have a5:=hcd.moreL _ hN;have a7:=hcd.marks.moreL _ hN;rw[dx]at a5 a7;have HF:=Hd (aef (aG.a.go ag.fr.bl) ag.bel (a5.go ag.fr.bl) (a7.go ag.fr.bl) g.out.snd.2.1.aT (pf (abL G)) (fun l hl=>by have:=(good_row G hl).2;omega) g.out.cl (HM.out F aM));have o2:=aW ag.fr;have o3:=aW F9;have bp:=Hd ag;have HG:=Hd2 G I;have bG:(os.take a).map (fun y=>(aaB r x (toC y)).map jd)++ [(aaB r x (toC F)).map jd]=(os.take (a+1)).map (fun y=>(aaB r x (toC y)).map jd):=by rw[dm,ap,ed];rfl
   have bB:(av r (toC F)).length<=400:=by rw[av,aad];exact HM.out F aM
   have bo:=Hd2 bG bB;clear aQ hcd a5 a7 hN ag F9 Ns hV ap aM G I T bG bB;gi_wp2;refine Cl 11 HF.out ?_;rintro e' be ⟨A2,n2,c2,rfl,a6,uU⟩;have VH:=bp.out.go uU;have G0:=Hd (GrS.nil (α:=fC) (e:=48) (M:=bP v++ [O.heap.size]) VH.bel);have a8:(av r (toC F)).length=n2:=by have:=a6.len;rwa [ck]at this
   have af:=fB a6 VH a8;have b8:n2<=400:=by rw[<-a8];exact bo.u
   clear o2 o3 v0 v1 v2 v3 HF bp a6 uU VH a8;gi_wp2;gi_loopw[16,101] (fun ow i wr=>∃(j:Nat) (Y:Option Addr) (n' c':Nat),j<=n2/\i=.int .i64 j/\ow=.slice Y n' c'/\Hid (GrS fC 48 (bP v++ [O.heap.size]) be wr (.slice Y n' c') (((av r (toC F)).take j).map fun s=>jd (aao r x (toC F) s)))) (fun _ i _=>n2-(intOf i).toNat);case atStart=>exact⟨0,_,_,_,cf _,rfl,rfl,G0⟩
   case round=>
    obtain⟨j,Y,n',c',hj,rfl,rfl,H⟩:=hrel;obtain⟨V2,rfl⟩:∃V,V=wr:=⟨_,rfl⟩;by_cases cm:j<n2
    ·obtain⟨s,hs⟩:=dW (av r (toC F)) j (by have:=af.v;omega);obtain⟨b5,o5,u1,u2,u3,u4,ek,⟨v0,v1,v2,v3⟩,hcd⟩:=af.a.abb (x:=cdP (toC F) s) (by rw[cM,hs];rfl);subst ek;have aQ:=fun{p:Addr}{u:Value}(h:be.cell? p=some u)=>(H.out.bl.cell (bw be p h)).trans h;replace v0:=aQ v0;replace v1:=aQ v1;replace v2:=aQ v2;replace v3:=aQ v3;obtain⟨XF,b4,az,bi⟩:=fP (w:=V2) ((Fr.nil V2).a V2 (dI u1 u2 u3 u4) 42);have VI:=(af.b.go H.out.bl).go az;have o4:=aW VI.fr;have o5:=aW bi;have bv:∀q,q∈bP (.slice Y n' c')++(bP v++ [O.heap.size])->w.heap.size<=q:=fun q hq=>by
      rcases cK.1 hq with hq|hq;·exact cF af.b.fr.bl.size (H.out.ge q hq)
      exact af.b.ge q hq
     have a9:=aG.a.moreL _ bv;rw[dx]at a9;obtain⟨k1,k2⟩:=abV HG.a (bh hs);have X:=Nj (M:=bP (.slice Y n' c')++(bP v++ [O.heap.size])) (i:=k) (a9.go VI.fr.bl) (c:=mkC (toC F) s) (((hcd.moreL _ H.out.ge).go H.out.bl).go az) k1 (ac3 HG.u (bh hs)) g.out.hx g.out.hp k2 (tab_below aG.v VI.fr.bl) ((H.out.bel).le az.size);have HX:=Hd X;have bN:=Hd (H.out.go az);have Q:((av r (toC F)).take j).map (fun s=>jd (aao r x (toC F) s))++ [jd (aao r x (toC F) s)]=((av r (toC F)).take (j+1)).map (fun s=>jd (aao r x (toC F) s)):=by rw[dm,hs,ed];rfl
     have al:=Hd Q;clear aQ hcd VI bi az bv a9 k1 k2 X hs H Q
     gi_wp2_with (first
      |(gi_at_builtin;refine c_ rfl fun K W=>?_;refine aI _ _ _ rfl rfl rfl JR.out (W _ _ ?_);clear W K)
      |(refine Cl 12 HX.out ?_;rintro e' bg ⟨u,rfl,hq,Xx⟩;obtain⟨p1,q1,A1,n1,c1,B1,m1,d1,rfl,qc⟩:=QC.of hq;obtain⟨b3,b9,aZ,bn⟩:=fP (w:=bg) ((Fr.nil bg).a bg [p1,.slice A1 n1 c1,q1,.slice B1 m1 d1] 48);have bu:=(bN.out.go Xx).go aZ;obtain⟨A7,n7,c7,b2,aE,am,-,-⟩:=bu.app (x:=jd (aao r x (toC F) s)) (cs:= [p1,.slice A1 n1 c1,q1,.slice B1 m1 d1]) underlying37 Iq ((qc.go aZ).rdx) (by rw[ck,cI];omega);rw[al.out]at am;have JR:=Hd aE;have bQ:=Hd am;have o6:=aW bn;clear hq Xx qc bn aZ bu aE am o4 o5 v0 v1 v2 v3)
      |fail)
     exact⟨⟨j+1,_,_,_,pj,by go_num,rfl,bQ⟩,by simp[intOf];omega⟩
    ·obtain rfl:j=n2:=pj;have aN:=H.out;rw[bR (by rw[af.v];exact bj _)]at aN;have bW:((av r (toC F)).map fun s=>jd (aao r x (toC F) s)).length=j:=by rw[ck];exact af.v
     obtain⟨A9,c9,e9,S9⟩:=aN.sl pj;rw[bW]at e9 S9;cases e9;have a0:=af.b.go aN.bl;obtain⟨v',cw,bc,q1,q2,ax,bS⟩:=a0.app (x:=(aaB r x (toC F)).map jd) (cs:= [.slice Y j c']) underlying43 ae1 ⟨_,_,_,rfl,by rw[aaB,nF];exact S9⟩ (by rw[ck,cI];omega);have o4:=aW a0.fr;rw[bo.a]at ax;obtain⟨A7,c7,rfl⟩:=ax.own.shape;obtain⟨z7,bH⟩:=aC ((os.take (a+1)).map fun y=>(aaB r x (toC y)).map jd).length;rw[bH]at bc ax;clear bH;have JR:=Hd bc;have bT:=Hd ax;clear H aN S9 a0 bc ax bS
     gi_wp2_with (first
      |(gi_at_builtin;refine c_ rfl fun K W=>?_;refine aI _ _ _ rfl rfl rfl JR.out (W _ _ ?_);clear W K)
      |fail)
     exact⟨⟨a+1,_,pj,by go_num,bT⟩,by simp[intOf];omega⟩
  ·obtain rfl:n=a:=pj;have ao:=hV.out;rw[bR pj]at ao;obtain⟨Av,cv,ev,SA⟩:=ao.sl (by rw[ck];omega);have aD:(os.map fun y=>(aaB r x (toC y)).map jd).length=n:=by rw[ck];exact aw
   rw[aD]at ev SA;cases ev;have aY:Sl (List fC) V [O.heap.size] Av n cv ((os.map fun y=>aaB r x (toC y)).map (·.map jd)):=by rw[nF];exact SA
   obtain⟨G,I,T⟩:=g.out.hc y (bh HY.out);obtain⟨lo,hlo⟩:=aC (aaB r x (toC y));obtain⟨la,aB⟩:=aC (an r x (toC y));have bA:∀z,z∈lo↔z∈la:=fun z=>by rw[<-hlo,<-aB];exact abT G I g.out.hx g.out.hp
   have a_:=aa1 G I g.out.hx g.out.hp;have bF:∀z,z∈la->yx z 300:=fun z hz=>abj G I g.out.hx g.out.hp (by rw[aB];exact hz);rw[aB]at a_;obtain⟨br,bI,Ae,ne,ce,bU,r0,aO⟩:=aY.aiW (k:=e) (l:=lo) (by rw[cM,HY.out,<-hlo];rfl);cases bU;have SC:=HL.u.keep ao.kp;rw[aB]at SC;have SI:=HL.a.keep ao.kp;have bC:lo.length=ne:=by have:=aO.len;rwa [ck]at this
   have bD:la.length=ns:=by have:=SC.len;rwa [ck]at this
   have YZ:=aO.small;have b7:=SC.small;have S:=oK bA a_ bF bC bD;have HQ:=h_ aO SC SI aY;have HF:=Hd2 ao.fr r0;have o2:=aW ao.fr;clear hV ao SA aY aO SC SI G I T hlo aB bA a_ bF bC bD HL aD;gi_wp2;clear o2 r0;gi_loopw[129] (fun i wv=>∃t:Nat,t<=ne/\i=t/\Hid (Below V V wv)) (fun i _=>ne-(intOf i).toNat);case atStart=>exact⟨0,cf _,rfl,Hd pE⟩
   case round=>
    obtain⟨t,ht,rfl,R⟩:=hrel;obtain⟨D,rfl⟩:∃V,V=wr:=⟨_,rfl⟩;by_cases bX:t<ne
    ·obtain⟨P,ar⟩:=dW lo t (by have:=S.d;omega);obtain⟨b5,o5,p5,q5,A5,n5,c5,A6,n6,c6,e5,⟨g0,G,I,T⟩,gs⟩:=(HQ.a.go R.out).aaV ar;subst e5;have bM:=Hd ((S.a P).1 (bh ar));obtain⟨W2,bV,ai,F2⟩:=fP (w:=D) ((Fr.nil D).a D [p5,.slice A5 n5 c5,q5,.slice A6 n6 c6] 48);have aX:=Hd ((gs.go ai).qw.rv);have ac:=Hd2 F2 (R.out.trans (ai.mono R.out.size));clear ar gs ai F2;gi_wp2;clear g0 G I T;gi_loopw[23,135] (fun m i wv=>∃u:Nat,u<=ns/\i=u/\m=.bool ((la.take u).any fun x=>decide (jd x=jd P))/\Hid (Below W2 W2 wv)) (fun _ i _=>ns-(intOf i).toNat);case atStart=>exact⟨0,cf _,rfl,by rw[fT];rfl,Hd pE⟩
     case round=>
      obtain⟨u,hu,rfl,rfl,N⟩:=hrel;obtain⟨V3,rfl⟩:∃V,V=wr:=⟨_,rfl⟩;obtain⟨bm,ab⟩:=aC ((la.take u).any fun x=>decide (jd x=jd P));rw[ab];by_cases bY:u<ns
      ·obtain⟨za,aq⟩:=dW la u (by have:=S.x;omega);have Q:((la.take (u+1)).any fun x=>decide (jd x=jd P))=(bm||decide (jd za=jd P)):=by
        rw[dm,aq,oV,ab];simp
       obtain⟨b6,o6,p6,q6,A7,n7,c7,A8,n8,c8,e6,⟨g0,G,I,T⟩,gs⟩:=((HQ.b.go ac.u).go N.out).aaV aq;subst e6;obtain⟨W4,I4,hb4,F4⟩:=fP (w:=V3) ((Fr.nil V3).a V3 [p6,.slice A7 n7 c7,q6,.slice A8 n8 c8] 48);have o4:=aW F4;have o2:=aW ((ac.a.go N.out).go hb4);have HX:=Hd ((fun a b=>zK b a) ((aX.out.go N.out).go hb4) ((gs.go hb4).qw.rv));exact AO
      ·obtain rfl:u=ns:=pj;have a2:bm=true:=by
        rw[<-ab,bR (pf S.x)];exact iS.2 ⟨P,bM.out,cx rfl⟩
       subst a2;clear ab;gi_wp2;exact⟨⟨t+1,pj,by go_num,Hd (ac.u.trans (N.out.mono ac.u.size))⟩,by simp[intOf];omega⟩
    ·obtain rfl:ne=t:=pj;gi_wp2;gi_loopw[151] (fun i wv=>∃t:Nat,t<=ns/\i=t/\Hid (Below V V wv)) (fun i _=>ns-(intOf i).toNat);case atStart=>exact⟨0,cf _,rfl,R⟩
     case round=>
      clear R D;obtain⟨t,ht,rfl,R⟩:=hrel;obtain⟨D,rfl⟩:∃V,V=wr:=⟨_,rfl⟩;by_cases bX:t<ns
      ·obtain⟨P,ar⟩:=dW la t (by have:=S.x;omega);obtain⟨b5,o5,p5,q5,A5,n5,c5,A6,n6,c6,e5,⟨g0,G,I,T⟩,gs⟩:=(HQ.b.go R.out).aaV ar;subst e5;obtain⟨W2,bV,ai,F2⟩:=fP (w:=D) ((Fr.nil D).a D [p5,.slice A5 n5 c5,q5,.slice A6 n6 c6] 48);have aX:=Hd ((gs.go ai).qw.rv);have aF:=Hd2 (((gs.abM (M':= []) pH).go ai).qw) ar;have ad:=R.out.trans (ai.mono R.out.size);have ac:=Hd2 F2 ad;have o3:=aW (HF.a.go ad);have r1:=(ad.cell (bw V _ HF.u)).trans HF.u;clear ar gs ai F2 ad;gi_wp2;clear g0 G I T o3 r1;gi_loopw[28,161] (fun m i wv=>∃u:Nat,u<=ne/\i=u/\m=.bool ((lo.take u).any fun x=>decide (jd P=jd x))/\Hid (Below W2 W2 wv)) (fun _ i _=>ne-(intOf i).toNat);case atStart=>exact⟨0,cf _,rfl,by rw[fT];rfl,Hd pE⟩
       case round=>
        obtain⟨u,hu,rfl,rfl,N⟩:=hrel;obtain⟨V3,rfl⟩:∃V,V=wr:=⟨_,rfl⟩;obtain⟨bm,ab⟩:=aC ((lo.take u).any fun x=>decide (jd P=jd x));rw[ab];by_cases bY:u<ne
        ·obtain⟨za,aq⟩:=dW lo u (by have:=S.d;omega);have Q:((lo.take (u+1)).any fun x=>decide (jd P=jd x))=(bm||decide (jd P=jd za)):=by
          rw[dm,aq,oV,ab];simp
         obtain⟨b6,o6,p6,q6,A7,n7,c7,A8,n8,c8,e6,⟨g0,G,I,T⟩,gs⟩:=((HQ.a.go ac.u).go N.out).aaV aq;subst e6;obtain⟨W4,I4,hb4,F4⟩:=fP (w:=V3) ((Fr.nil V3).a V3 [p6,.slice A7 n7 c7,q6,.slice A8 n8 c8] 48);have o4:=aW F4;have o2:=aW ((ac.a.go N.out).go hb4);have HX:=Hd (zK ((aX.out.go N.out).go hb4) ((gs.go hb4).qw.rv));exact AO
        ·obtain rfl:ne=u:=pj;have a2:bm=true:=by
          rw[<-ab,bR (pf S.d)];exact iS.2 ⟨P,(S.a P).2 (bh aF.u),cx rfl⟩
         subst a2;clear ab;have ad:=ac.u.trans (N.out.mono ac.u.size);by_cases bZ:t=0;·have b1:decide (((t:Nat):Int)>0)=false:=cE pj;have HB:=Hd ad;clear ad N;gi_wp2;exact⟨⟨t+1,pj,by go_num,HB⟩,by simp[intOf];omega⟩
         have b1:decide (((t:Nat):Int)>0)=true:=cx pj;obtain⟨tp,b0⟩:∃tp:Nat,t=tp+1:=⟨t-1,pj⟩;have ct:IntKind.i64.wrap ((t:Int)-1)=(tp:Int):=by rw[cA];omega
         have cr:tp<ns:=pj;have cq:0<t:=pj;obtain⟨zp,aR⟩:=dW la tp (by have:=S.x;omega);obtain⟨b6,o6,p6,q6,A7,n7,c7,A8,n8,c8,e6,⟨y0,y1,F,y3⟩,gs⟩:=(HQ.b.go ad).aaV aR;cases e6;have F3:=ac.a.go N.out;have x1:=ah (F3.aQ 0 0);have x2:=ah (F3.aQ 0 1);have x3:=ah (F3.aQ 0 2);have x4:=ah (F3.aQ 0 3);replace y0:=ah y0;replace y1:=ah y1;replace F:=ah F;replace y3:=ah y3;have oa:=S.c zp (bh aR);have ob:=S.c P (bh aF.u);have X:=WZ (w:=V3.drew) (M:= []) (a:=zp) (b:=P) (b_.nil _) (((gs.abM (M':= []) pH).go pE.drew).qw) ((aF.a.go N.out).go pE.drew) oa.ok ob.ok ((oa.sh pj).fine (ob.sh pj));have bx:=ac2 S.b.ris aR aF.u pj;obtain⟨z,hz⟩:=aC (rW zp P);rw[hz]at X bx;have bb:decide (z>=0)=false:=cE pj;have HX:=Hd X;have HB:=Hd2 ad (bL V3 V3).drew;clear X oa ob gs aR F3 ad N hz bx b0 bZ;gi_wp2;refine ak [] [0,1,2,3,4,5,6,7,8,9,10,11] pk pk ?_;refine eH ?_;refine aH fun K hK=>aA rfl rfl wy fun K' W=>?_;gi_wp2;refine Cl 14 HX.out ?_;rintro e' w9 ⟨rfl,Ns⟩;have bK:=Hd (HB.a.trans ((HB.u.trans Ns).mono HB.a.size));refine W _ _ ⟨?_,hK _ _ ?_⟩;clear W K' hK K;·exact bq Ns _
         clear Ns x1 x2 x3 x4 y0 y1 F y3 HX HB;refine lit ?_;refine eH ?_;refine aK ?_;refine lit ?_;gi_wp2;exact⟨⟨t+1,pj,by go_num,bK⟩,by simp[intOf];omega⟩
      ·obtain rfl:ns=t:=pj;have F9:=HF.a.go R.out;have h7:=F9.lt O.heap.size [.slice (some ⟨br,bI,none⟩) n cv] po;obtain⟨bs,ca,a1,au⟩:=fP (w:=D) ((((F9.a D (aaA n (aaf [] 0 [])) 4).a (D+1) [.slice (some ⟨D,0,none⟩) (n+1) (n+1)] 54).a (D+2) [true] 4).a (D+3) [trF ⟨O,D.heap.size+3,w.heap.size+2,D.heap.size+2,w.heap.size+1,D.heap.size+1,D.heap.size⟩] 55);have hok:(⟨O,D.heap.size+3,w.heap.size+2,D.heap.size+2,w.heap.size+1,D.heap.size+1,D.heap.size⟩:TrV).ok:=by
        unfold TrV.ok;simp only;omega
       have mm:=fun V=>afx (q:=n) pj (ls:= []) (e:=0) V;have T0:TrS w bs ⟨O,D.heap.size+3,w.heap.size+2,D.heap.size+2,w.heap.size+1,D.heap.size+1,D.heap.size⟩ (some ⟨br,bI,none⟩) n cv (os.map fun y=>aaB r x (toC y)) e n (some ⟨bk,ok,none⟩) cp (aaf [] 0 []):=⟨au.only (fun x hx=>by simp at hx;rcases hx with hx|hx|hx|hx|hx<;>simp[hx]),au.only (fun x hx=>by simp at hx;simp[hx]),au.only (fun x hx=>by simp at hx;simp[hx]),((((HQ.w.less (M':= []) pH).go R.out).more (b:=D) pD).more (b:=D+2) pj).go a1⟩;have HX:=Hd (U.try_any hok he (by rw[ck];exact aw) h6 (fun K hK=>by obtain⟨F,ap,rfl⟩:=eE.1 hK;obtain⟨G,I,-⟩:=g.out.hc F ap;refine⟨by rw[aaB,ck,av,aad];exact HM.out F ap,fun z hz=>?_⟩;exact abj G I g.out.hx g.out.hp ((abT G I g.out.hx g.out.hp).1 hz)) _ (ch:= []) (w:=bs) (B:=none) (m:=0) (c:=0) 0 rfl rfl (cf _) pH (fun q hq=>by have:=au.mJ 6;simp at hq;omega) Sl.nil0 T0);have HI:=Hd ((((HQ.c.less (M':= []) pH).go R.out).more (b:=D.heap.size) pD).more (b:=D.heap.size+2) pj |>.go a1);have o3:=aW (au.only (L':= [(w.heap.size+1, [.slice (some ⟨bk,ok,none⟩) n cp]),(D.heap.size+3, [trF ⟨O.heap.size,D.heap.size+3,w.heap.size+2,D.heap.size+2,w.heap.size+1,D.heap.size+1,D.heap.size⟩])]) (fun x hx=>by simp at hx;rcases hx with hx|hx<;>simp[hx]));have o4:=aW F9;clear F9 au a1 T0 hok h7 R;gi_wp2;refine Cl 15 HX.out ?_;rintro e' ae ⟨rfl,hT,hk⟩;obtain⟨f,hf⟩:=aC (aaX e (os.map fun y=>aaB r x (toC y)) [] (aaf [] 0 []));rw[fi,hf]at hT;have ba:=aeh (e:=e) (fun y hy=>⟨(g.out.hc y hy).1,(g.out.hc y hy).2.1⟩) g.out.hx g.out.hp (by rw[aw];exact he);rw[show(fun _=>false)=aaf [] 0 []from rfl,hf,aw]at ba;have S2:Sl Int ae [] Bl ml dl ((aaF (os.map fun y=>an r x (toC y)) e).map Int.ofNat):=(HI.out.keep hk.k).less pH;rw[<-ba]at S2;have c1:ae.cell? ⟨D+1,0,none⟩=some (.slice (some ⟨D,0,none⟩) (n+1) (n+1)):=hT.f5.aQ 4 0;have c2:ae.cell? ⟨D+2,0,none⟩=some (.bool true):=hT.fo.aQ 0 0;have G0:=Hd (GrS.nil (α:=Int) (e:=3) (M:= []) (V:=ae) pH);have HT:=fB hT S2 c2;clear hT hk hf ba S2 c2 o3 o4 mm HX HI;gi_wp2;clear c1;gi_loopw[36,202] (fun wt i wr=>∃(t:Nat) (Y:Option Addr) (n' c':Nat),t<=n+1/\i=t/\wt=.slice Y n' c'/\Hid (GrS Int 3 [] ae wr (.slice Y n' c') (rkK f t))) (fun _ i _=>n+1-(intOf i).toNat);case atStart=>exact⟨0,_,_,_,cf _,rfl,rfl,G0⟩
       case round=>
        obtain⟨t,Y,n',c',ht,rfl,rfl,H⟩:=hrel;obtain⟨V5,rfl⟩:∃V,V=wr:=⟨_,rfl⟩;by_cases co:t<n+1
        ·have c3:ae.cell? ⟨D,t,none⟩=some (.bool (f t)):=(HT.a.fg.at_ _ _ (bz.2 rfl) t _ (abQ (q:=n) (f:=f) pj)).1;replace c3:=(H.out.bl.cell (bw ae _ c3)).trans c3;obtain⟨bf,a4⟩:=aC (f t);have Q:=adJ (f:=f) (k:=t);rw[a4]at Q c3;cases bf;·have HN:=Hd (show GrS Int 3 [] ae V5 (.slice Y n' c') (rkK f (t+1)) by rw[Q];simpa using H.out);clear Q H a4;gi_wp2;exact Xo
         obtain⟨A7,n7,c7,b2,aE,am,-,-⟩:=H.out.app (x:=((t:Nat):Int)) (cs:= [.int .i64 ((t:Nat):Int)]) underlying26 RY ⟨rfl,pA⟩ (by have:=ace (f:=f) (k:=t);omega);rw[if_pos rfl]at Q;rw[<-Q]at am;have JR:=Hd aE;have HN:=Hd am;clear Q H a4 aE am
         gi_wp2_with (first
          |(gi_at_builtin;refine c_ rfl fun K W=>?_;refine aI _ _ _ rfl rfl rfl JR.out (W _ _ ?_);clear W K)
          |fail)
         exact Xo
        ·obtain rfl:t=n+1:=pj;have hl:=ace (f:=f) (k:=n+1);obtain⟨A9,c9,e9,S9⟩:=H.out.sl pj;cases e9;have c4:=(H.out.bl.cell (bw ae _ HT.v)).trans HT.v;have S3:=HT.b.go H.out.bl;have X:=abq _ _ _ _ _ _ _ _ _ S3 S9 (by have:=S3.len;omega);rw[(abB _ _).2 rfl]at X;have HX:=Hd X;have HB:=Hd (HT.a.f5.bl.trans (H.out.bl.mono HT.a.f5.bl.size));clear S3 S9 X H hl;gi_wp2;refine Cl 16 HX.out ?_;rintro e' cy ⟨rfl,hb⟩;have bJ:=Hd (HB.out.trans (hb.mono HB.out.size));clear hb HX;gi_wp2;go_ret;exact⟨rfl,bJ.out⟩
end
end
