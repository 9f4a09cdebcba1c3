/- Lemmas -/
import Derived.Test.YtfdmnogfflcllaaGreatDoorM30
set_option linter.all false
set_option maxRecDepth 100000
set_option maxHeartbeats 0
namespace Go.Proofs.YtfdmnogfflcllaaGreatDoor
open Go.Proofs.Tryz
theorem A_{p:Prop}(h:p:=by
 refine ent func7 ntmps7 ?_
 gi_wp2_with (first
  |(refine Cl 24 t.out ?_;rintro e Y I;obtain⟨K,rfl,f,d⟩:=I.of;replace F:=Hd (F.out.go d);have E:=aW F.out;have q:=Hd f;clear d I f;obtain⟨z,m⟩:=aC (K !=0);cases z)
  |(refine⟨bO,?_⟩))
 ·go_ret;exact iD.bad rfl pt F.out.bl
 go_ret;exact iD.bad rfl (fu.1 m) F.out.bl):p:=h
theorem EJ{p:Prop}(h:p:=by
 gi_wp2_with (first|(refine⟨bO,?_⟩))
 go_ret;exact Says.no rfl F.out.bl):p:=h
theorem Ll{p:Prop}(h:p:=by
 gi_wp2_with (first|(refine⟨bO,?_⟩))
 exact⟨⟨j+1,g,pj,by go_num,rfl,D,v,u,f⟩,by simp[intOf];omega⟩):p:=h
theorem U2{p:Prop}(h:p:=by have:=ix (show g<=5040 by omega) (show((z:Nat):Int)<=1001 by omega) pj pj;omega):p:=h
theorem Y3{p:Prop}(h:p:=by exact⟨0,1,cf _,rfl,rfl,pj,pj,Hd (by rw[fi];exact HZ.out),F⟩):p:=h
theorem cmp_eq{a b:Rt}(ha:a.ok)(hb:b.ok)(h:rW a b=0):a=b:=by refine agP ha hb ?_;have d:=(ab_ ha hb).1 pj;have e:=(ab_ hb ha).1 (by rw[aaC];omega);exact Rat.le_antisymm d e
def af(c:bT):List Int:=(List.range (((c.2.2.1-c.2.1)/c.2.2.2.1).toNat+1)).map fun(j:Nat)=>c.2.1+c.2.2.2.1*(j:Int)
theorem acP{c:bT}(h:rC c){m:Int}:m∈af c↔Nv (rX c) m=true:=by
 obtain⟨g,i,s,F,-⟩:=h;unfold af Nv rX;rw[eW];simp only[eE,ga];constructor;·rintro⟨j,C,rfl⟩;have a:0<=(c.2.2.1-c.2.1)/c.2.2.2.1:=oX pj pj;have d:(j:Int)<=(c.2.2.1-c.2.1)/c.2.2.2.1:=pj;have p:(j:Int)*c.2.2.2.1<=c.2.2.1-c.2.1:=(Int.le_ediv_iff_mul_le pj).1 d;have e:c.2.2.2.1*(j:Int)=(j:Int)*c.2.2.2.1:=Int.mul_comm _ _;have f:0<=(j:Int)*c.2.2.2.1:=Int.mul_nonneg pj pj;refine⟨pj,pj,?_⟩;rw[show c.2.1+c.2.2.2.1*(j:Int)-c.2.1=c.2.2.2.1*(j:Int) by omega,Int.mul_emod_right]
 rintro⟨D,L,b⟩;have e:=Int.mul_ediv_add_emod (m-c.2.1) c.2.2.2.1;rw[b,Int.add_zero]at e;have a:0<=(m-c.2.1)/c.2.2.2.1:=oX pj pj;have o:(m-c.2.1)/c.2.2.2.1<=(c.2.2.1-c.2.1)/c.2.2.2.1:=Int.ediv_le_ediv pj pj;refine⟨((m-c.2.1)/c.2.2.2.1).toNat,pj,?_⟩;rw[km a,e];omega
def ao(i k:Nat):List Int->List (Nat×Nat)
 | []=> []
 |m::l=>if m= -1 then(i,k)::ao i (k+1) l else ao i (k+1) l
def aa(i:Nat):List (List Int)->List (Nat×Nat)
 | []=> []
 |l::s=>ao i 0 l++aa (i+1) s
def aak(s:List (List Int))(q:Nat×Nat)(m:Int):List (List Int):=s.set q.1 ((s.getD q.1 []).set q.2 m)
def aD:bT:=(⟨#[]⟩,0,0,1,0,0,false)
def comps(cs:List bT):List (Nat×Nat)->List (List Int)->List (List (List Int))
 | [],s=> [s]
 |q::L,s=>(af (cs.getD q.1 aD)).flatMap fun m=>comps cs L (aak s q m)
def manyN(cs:List bT):List (Nat×Nat)->Nat
 | []=>1
 |q::L=>(af (cs.getD q.1 aD)).length*manyN cs L
def abx(x:Rt):List Rt->List Rt
 | []=> [x]
 |y::l=>if rW y x<0 then y::abx x l else if rW y x=0 then y::l else x::y::l
def aai(l:List Rt)(xs:List Rt):List Rt:=xs.foldl (fun l x=>abx x l) l
theorem abD{x z:Rt}(hx:x.ok):∀{l:List Rt},(∀y,y∈l->y.ok)->(z∈abx x l↔z=x\/z∈l)
 | [],_=>by simp[abx]
 |y::l,h=>by
  unfold abx;by_cases h1:rW y x<0
  ·rw[if_pos h1,cD,abD hx (fun z hz=>h z (bE _ hz)),cD];constructor
   ·rintro(e|e|e);·exact .inr (.inl e)
    ·exact .inl e
    exact .inr (.inr e)
   rintro(e|e|e);·exact .inr (.inl e)
   ·exact .inl e
   exact .inr (.inr e)
  rw[if_neg h1];by_cases h2:rW y x=0;·rw[if_pos h2];have e:=cmp_eq (h y cw) hx h2;subst e;simp
  rw[if_neg h2,cD]
theorem aek{x:Rt}(hx:x.ok){l:List Rt}(h:∀y,y∈l->y.ok):∀y,y∈abx x l->y.ok:=fun y hy=>by
 rcases(abD hx h).1 hy with rfl|hy;·exact hx
 exact h y hy
theorem abU{z:Rt}:∀{xs l:List Rt},(∀y,y∈l->y.ok)->(∀y,y∈xs->y.ok)->(z∈aai l xs↔z∈xs\/z∈l)
 | [],l,_,_=>by simp[aai]
 |x::xs,l,h,g=>by
  have hx:=g x cw;show z∈aai (abx x l) xs↔_;rw[abU (aek hx h) (fun y hy=>g y (bE _ hy)),abD hx h,cD];constructor
  ·rintro(e|e|e);·exact .inl (.inr e)
   ·exact .inl (.inl e)
   exact .inr e
  rintro((e|e)|e);·exact .inr (.inl e)
  ·exact .inl e
  exact .inr (.inr e)
def ac1:List Rt->Prop
 | []=>True
 |x::l=>(∀y,y∈l->rW x y<0)/\ac1 l
theorem ads{x:Rt}(hx:x.ok):∀{l:List Rt},(∀y,y∈l->y.ok)->ac1 l->ac1 (abx x l)
 | [],_,_=>And.intro (fun _ h=>absurd h po) trivial
 |y::l,h,g=>by
  have hy:=h y cw;have hl:=fun z hz=>h z (bE _ hz);unfold abx;by_cases h1:rW y x<0
  ·rw[if_pos h1];refine⟨fun z hz=>?_,ads hx hl g.2⟩;rcases(abD hx hl).1 hz with rfl|hz;·exact h1
   exact g.1 z hz
  rw[if_neg h1];by_cases h2:rW y x=0;·rw[if_pos h2];exact g
  rw[if_neg h2];have h3:rW x y<0:=by have:=aaC x y;have:=adV y x;omega
  refine⟨fun z hz=>?_,g⟩;rcases cD.1 hz with rfl|hz;·exact h3
  exact(aaY hx (hl z hz)).2 (by have a:=(aaY hx hy).1 h3;have b:=(aaY hy (hl z hz)).1 (g.1 z hz);exact Std.lt_trans a b)
theorem aaK{α:Type}{d x:α}:∀{l:List α}{i:Nat},i<l.length->(l.set i x).getD i d=x:=fun{l i} h=>by simp[cC,h]
theorem getD_set_ne{α:Type}{d x:α}{l:List α}{i j:Nat}(h:i≠j):(l.set i x).getD j d=l.getD j d:=by rw[cC,cC,gj h]
theorem aaN{i:Nat}:∀{l:List Int}{k:Nat}{q:Nat×Nat},q∈ao i k l->q.1=i/\k<=q.2
 |m::l,k,q,h=>by
  unfold ao at h;have r:=fun(h:q∈ao i (k+1) l)=>aaN h;split at h
  ·rcases cD.1 h with rfl|h;·exact⟨rfl,bj _⟩
   exact⟨(r h).1,by have:=(r h).2;omega⟩
  exact⟨(r h).1,by have:=(r h).2;omega⟩
theorem aaZ{i:Nat}:∀{l:List Int}{k:Nat},(ao i k l).Nodup
 | [],_=>by simp[ao]
 |m::l,k=>by
  unfold ao;split;·exact ko.2 ⟨fun h=>by have h2:k+1<=k:=(aaN h).2;omega,aaZ⟩
  exact aaZ
theorem acQ:∀{s:List (List Int)}{i:Nat}{q:Nat×Nat},q∈aa i s->i<=q.1
 |l::s,i,q,h=>by
  unfold aa at h;rcases cK.1 h with h|h;·have:=(aaN h).1;omega
  have:=acQ h;omega
theorem aa0:∀{s:List (List Int)}{i:Nat},(aa i s).Nodup
 | [],_=>by simp[aa]
 |l::s,i=>by unfold aa;refine List.nodup_append.2 ⟨aaZ,aa0,fun a ha b hb e=>?_⟩;subst e;have h1:=(aaN ha).1;have h2:=acQ hb;omega
theorem aaO(c:bT):0<(af c).length:=by simp[af]
theorem aaP(cs:List bT):∀L,0<manyN cs L
 | []=>Nat.one_pos
 |q::L=>Nat.mul_pos (aaO _) (aaP cs L)
theorem aad(cs:List bT):∀(L:List (Nat×Nat)) (s:List (List Int)),(comps cs L s).length=manyN cs L
 | [],_=>rfl
 |q::L,s=>by
  rw[comps,manyN,List.length_flatMap];simp only[aad cs L];generalize af (cs.getD q.1 aD)=C
  induction C with
  |nil=>simp
  |cons x C ih=>rw[eV,mC,ih,eh,fY,fh,pc]
section
open Go.RowKit Go.Shelf
attribute [local go_sem] cX
theorem aaT{c:bT}(h:rC c):(((af c).length:Nat):Int)=(c.2.2.1-c.2.1).tdiv c.2.2.2.1+1/\(af c).length<=1001:=by obtain⟨b,d,s,F,-⟩:=h;have a:0<=(c.2.2.1-c.2.1)/c.2.2.2.1:=oX pj pj;have e:(c.2.2.1-c.2.1)/c.2.2.2.1<=c.2.2.1-c.2.1:=Int.ediv_le_self _ pj;rw[eO pj];unfold af;rw[ck,gh];omega
def aat(lim:Int)(cs:List bT):List (Nat×Nat)->Int->Int
 | [],n=>n
 |q::L,n=>aat lim cs L (if n<=lim then n*(((af (cs.getD q.1 aD)).length:Nat):Int)else n)
theorem adz{lim:Int}{cs:List bT}:∀{L:List (Nat×Nat)}{n:Int},lim<n->aat lim cs L n=n
 | [],_,_=>rfl
 |q::L,n,h=>by rw[aat,if_neg pj];exact adz h
theorem acT{lim:Int}{cs:List bT}:∀{L:List (Nat×Nat)}{n:Int},1<=n->(n*(manyN cs L:Nat)<=lim->aat lim cs L n=n*(manyN cs L:Nat))/\(lim<n*(manyN cs L:Nat)->lim<aat lim cs L n)
 | [],n,_=>by simp[aat,manyN]
 |q::L,n,h=>by
  have hs:=aaO (cs.getD q.1 aD);have hp:=aaP cs L;rw[aat,manyN];by_cases hn:n<=lim
  ·rw[if_pos hn];have h1:1<=n*(((af (cs.getD q.1 aD)).length:Nat):Int):=by
    have:=ix h (show(1:Int)<=(((af (cs.getD q.1 aD)).length:Nat):Int) by omega) pj pj;omega
   have ih:= @acT lim cs L _ h1;rw[Int.mul_assoc,<-eI]at ih;exact ih
  rw[if_neg hn,adz pj];refine⟨fun d=>?_,fun _=>by omega⟩;exfalso;have s:(1:Int)<=(((af (cs.getD q.1 aD)).length*manyN cs L:Nat):Int):=by have:=Nat.mul_pos hs hp;omega
  have:=js s (show 0<=n by omega);omega
theorem ad2{c:bT}(h:rC c)(w:World):CB 60 #[Qz c] (.int .i64 ((af c).length:Nat)) w:=by
 refine wid ?_;obtain⟨W1,B,F1⟩:=dR ((Fr.nil w).a w (DY c) 59);have y:=aW F1;have F:=Hd F1;obtain⟨b,e⟩:=aaT h;obtain⟨nm,lo,u,d,f,g,rv⟩:=c;have K:0<=lo/\lo<u/\u<=1000/\1<=d:=⟨h.1,h.2.1,h.2.2.1,h.2.2.2.1⟩;obtain⟨z,m⟩:=aC (af (nm,lo,u,d,f,g,rv)).length;rw[m]at b e |-;simp only at b;obtain⟨t,X⟩:=aC ((u-lo).tdiv d);rw[X]at b;have n5:¬d=0:=pj;have i:IntKind.i64.wrap (u-lo)=u-lo:=by rw[cA];omega
 have j:IntKind.i64.wrap t=t:=by rw[cA];omega
 have o:IntKind.i64.wrap (t+1)=t+1:=by rw[cA];omega
 have HZ:=Hd b;clear F1 h m b e K;refine ent func60 ntmps60 ?_;gi_wp2;go_ret;exact⟨by rw[HZ.out];rfl,F.out.bl⟩
theorem acU{M:List Nat}{r:aS}{s1 s2 s3 s4 s5 s6 s7:dK}{c:dS}{t1 t2 t3 t4:dK}{lim:Int}{w:World}(hr:dG w M r s1 s2 s3 s4 s5 s6 s7)(hc:jE w M c t1 t2 t3 t4)(hk:∀x,x∈r.aT->rC x)(hl:c.marks.length<=r.aT.length)(hlim:0<=lim/\lim<=5040):
 CB 25 #[.agg (aV r s1 s2 s3 s4 s5 s6 s7).toArray,.agg (dI t1 t2 t3 t4).toArray,lim] (.int .i64 (aat lim r.aT (aa 0 c.marks) 1)) w:=by
 refine wid ?_;obtain⟨G,E,K⟩:=s1;obtain⟨J,s,N⟩:=t1;have C:Sl bT w M G E K r.aT:=hr.aT;have D:Sl (List Int) w [] J s N c.marks:=hc.marks;have an:=C.small;have aj:=D.small;have am:s<=E:=by rw[<-C.len,<-D.len];exact hl
 obtain⟨W1,ak,F1⟩:=dR (((Fr.nil w).a w (aV r ⟨G,E,K⟩ s2 s3 s4 s5 s6 s7) 28).a (w+1) (dI ⟨J,s,N⟩ t2 t3 t4) 42);obtain⟨Z,R⟩:=aC (aat lim r.aT (aa 0 c.marks) 1);rw[R];obtain⟨L,Q⟩:∃L:List (Nat×List Value), [(w.heap.size,aV r ⟨G,E,K⟩ s2 s3 s4 s5 s6 s7),(w.heap.size+1,dI ⟨J,s,N⟩ t2 t3 t4)]=L:=⟨_,rfl⟩;have HL:=Hd (show ∀V,Fr w V L->Fr w V [(w,aV r ⟨G,E,K⟩ s2 s3 s4 s5 s6 s7),(w+1,dI ⟨J,s,N⟩ t2 t3 t4)]from fun V h=>by rw[Q];exact h);have F:=Hd (show Fr w W1 L by rw[<-Q];exact F1);have o1:=aW F1;have H:=h_ C D hk C.len;have HG:=Hd D.len;have HZ:=Hd R;clear F1 hr hc C D hk hl R Q;refine ent func25 ntmps25 ?_;gi_wp2;clear o1;gi_loopw[7,8] (fun a i wr=>∃k:Nat,∃g:Int,k<=s/\i=k/\a=g/\1<=g/\g<=6000000/\Hid (aat lim r.aT (aa k (c.marks.drop k)) g=Z)/\Hid (Fr w wr L)) (fun _ i _=>s-(intOf i).toNat);case atStart=>exact Y3
 case round=>
  obtain⟨k,g,hk,rfl,rfl,D,v,p,f⟩:=hrel;have o2:=aW (HL.out _ f.out);by_cases ae:k<s
  ·obtain⟨l,S⟩:=dW c.marks k (by rw[HG.out];exact ae);have HS:=Hd (show aat lim r.aT (ao k 0 l++aa (k+1) (c.marks.drop (k+1))) g=Z by
    have h:=p.out;obtain⟨hi,e⟩:=bu.1 S;rw[cL hi,e,aa]at h;exact h)
   obtain⟨x,hx⟩:=dW r.aT k (by rw[H.w];omega);have HX:=Hd2 hx (H.c x (bh hx));have HK:=Hd S;clear p hx S;gi_wp2;clear o2;obtain⟨V,rfl⟩:∃V,V=wr:=⟨_,rfl⟩;gi_loopw[7,9] (fun a i wr=>∃j:Nat,∃g:Int,j<=l.length/\i=.int .i64 j/\a=.int .i64 g/\1<=g/\g<=6000000/\Hid (aat lim r.aT (ao k j (l.drop j)++aa (k+1) (c.marks.drop (k+1))) g=Z)/\Hid (Fr w wr L)) (fun _ i _=>l.length-(intOf i).toNat);case atStart=>exact⟨0,g,cf _,rfl,rfl,D,v,Hd (by rw[fi];exact HS.out),f⟩
   case round=>
    obtain⟨j,g,hj,rfl,rfl,D,v,p,f⟩:=hrel;have o2:=aW (HL.out _ f.out);obtain⟨b,o,B,m,d,rfl,c0,Y⟩:=(H.b.go (HL.out _ f.out).bl).tX HK.out;have al:l.length=m:=Y.len;have aq:=Y.small;by_cases ad:j<m
    ·obtain⟨b2,ar,y,rfl,y0,-,-,hy⟩:=Y.pR ad;obtain⟨ac,ey⟩:=bu.1 hy;have I:=Hd (show aat lim r.aT ((if y= -1 then(k,j)::ao k (j+1) (l.drop (j+1))else ao k (j+1) (l.drop (j+1)))++aa (k+1) (c.marks.drop (k+1))) g=Z by
      have h:=p.out;rw[cL ac,ey,ao]at h;exact h)
     clear p hy Y;by_cases O:y= -1
     ·subst O;by_cases X:g<=lim
      ·obtain⟨b3,t,es,rfl,W,q⟩:=(H.a.go (HL.out _ f.out).bl).get HX.out.1;obtain⟨rfl,-⟩:=lT W;have v0:wr.cell? ⟨b3,t+k*7,none⟩=some (.string x.1):=q.2 0 _ rfl;have v1:wr.cell? ⟨b3,t+k*7+1,none⟩=some (.int .i64 x.2.1):=q.2 1 _ rfl;have v2:wr.cell? ⟨b3,t+k*7+2,none⟩=some (.int .i64 x.2.2.1):=q.2 2 _ rfl;have v3:wr.cell? ⟨b3,t+k*7+3,none⟩=some (.int .i64 x.2.2.2.1):=q.2 3 _ rfl;have v4:wr.cell? ⟨b3,t+k*7+4,none⟩=some (.int .i64 x.2.2.2.2.1):=q.2 4 _ rfl;have v5:wr.cell? ⟨b3,t+k*7+5,none⟩=some (.int .i64 x.2.2.2.2.2.1):=q.2 5 _ rfl;have v6:wr.cell? ⟨b3,t+k*7+6,none⟩=some (.bool x.2.2.2.2.2.2):=q.2 6 _ rfl;have HM:=Hd (ad2 HX.out.2 wr);obtain⟨ag,ah⟩:=aaT HX.out.2;have ai:=aaO x;have u:=Hd (show aat lim r.aT (ao k (j+1) (l.drop (j+1))++aa (k+1) (c.marks.drop (k+1))) (g*(((af x).length:Nat):Int))=Z by
        have h:=I.out;rw[if_pos rfl,d_,aat,if_pos X,cC,HX.out.1,eK]at h;exact h)
       obtain⟨z,hz⟩:=aC (af x).length;rw[hz]at HM ah ai u;have p1:1<=g*((z:Nat):Int):=by have:=ix D (show(1:Int)<=((z:Nat):Int) by omega) pj pj;omega
       have p2:g*((z:Nat):Int)<=6000000:=by exact U2
       have p3:IntKind.i64.wrap (g*((z:Nat):Int))=g*((z:Nat):Int):=by rw[cA];omega
       clear W q hz ag I
       gi_wp2_with (first
        |(refine Cl 60 HM.out ?_;rintro e w3 ⟨rfl,T⟩;have ab:=Hd (f.out.go T);clear T)
        |fail)
       exact⟨⟨j+1,_,pj,by go_num,rfl,p1,p2,u,ab⟩,by simp[intOf];omega⟩
      have u:=Hd (show aat lim r.aT (ao k (j+1) (l.drop (j+1))++aa (k+1) (c.marks.drop (k+1))) g=Z by have h:=I.out;rw[if_pos rfl,d_,aat,if_neg X]at h;exact h);exact Ll
     have ap:(y== -1)=false:=cU.2 O;have u:=Hd (show aat lim r.aT (ao k (j+1) (l.drop (j+1))++aa (k+1) (c.marks.drop (k+1))) g=Z by
      have h:=I.out
      rwa [if_neg O]at h)
     clear O;exact Ll
    ·have P:=Hd (show aat lim r.aT (aa (k+1) (c.marks.drop (k+1))) g=Z by
       have h:=p.out;rw[cB pj,ao,df]at h;exact h)
     clear p Y;gi_wp2;exact⟨⟨k+1,g,pj,by go_num,rfl,D,v,P,f⟩,by simp[intOf];omega⟩
  ·have P:=Hd (show g=Z by
     have h:=p.out;rw[cB (by rw[HG.out];omega),aa]at h;exact h)
   clear p;gi_wp2;go_ret;exact⟨by rw[P.out];rfl,(HL.out _ f.out).bl⟩
theorem adh{M:List Nat}{r:aS}{s1 s2 s3 s4 s5 s6 s7:dK}{w:World}(hr:dG w M r s1 s2 s3 s4 s5 s6 s7)(hs:aa_ r)(hM:b_ M w):
 CB 24 #[.agg (aV r s1 s2 s3 s4 s5 s6 s7).toArray] (.int .i64 0) w:=
 (abw hr hM).mono fun e w' h=>by obtain⟨k,h1,h2,h3⟩:=h.of;rw[h2.2 hs]at h1;exact⟨h1,h3⟩
section
variable {M:List Nat}{r:aS}{s1 s2 s3 s4 s5 s6 s7:dK}{w:World}{k:Nat}{x:aJ}
theorem aeU(hr:dG w M r s1 s2 s3 s4 s5 s6 s7)(hS:aa_ r)(hx:r.rounds[k]?=some x)(hp:x.2.2.2.2.1=false)(hM:b_ M w)(hc:r.aT.length<=1000)(hk:k<=1000):
 Calls prog 64 #[.agg (aV r s1 s2 s3 s4 s5 s6 s7).toArray,k] w fun e w'=>∃A n c,e=.returned (.tuple #[.slice A n c,.int .i64 0])/\Sl Int w' [] A n c (aaJ r.aT.length k (au x))/\Below w w w':=by
 refine wid ?_;obtain⟨A5,n5,c5⟩:=s5;have d:Sl aJ w M A5 n5 c5 r.rounds:=hr.rounds;have O:=d.small;have K:k<n5:=by rw[<-d.len];exact(bu.1 hx).1
 have L:¬((k:Nat):Int)>=((n5:Nat):Int):=pj;have J:¬((k:Nat):Int)<0:=pj;obtain⟨m,z,-,-,-,rfl,-⟩:=d.iw hx;obtain⟨W1,I,F1⟩:=dR ((Fr.nil w).a w (aV r s1 s2 s3 s4 ⟨some ⟨m,z,none⟩,n5,c5⟩ s6 s7) 28);have s:=aW F1;have F:=Hd F1;have i:∀y,y∈iZ (au x)->WOk y:=fun y p=>afq ((hS.1.2.1.rounds x (bh hx)).2.2.2.2.2 hp y p);have t:=Hd (adh (hr.go F1.bl) hS (hM.le F1.bl.size));have j:=Hd (fun(V:World) (hb:Below w w V)=>aeI (hr.go hb) hx i hc hk);have H:=fB d hx hp;clear F1 hr d hS hM hx hp i;refine ent func64 ntmps64 ?_
 gi_wp2_with (first
  |(have g:=N.out;clear g;refine Cl 116 (j.out _ F.out.bl) ?_;rintro e R ⟨A,n,c,rfl,Y,q⟩;have E:=Hd2 Y (F.out.bl.trans (q.mono F.out.bl.size));clear q Y)
  |(refine Cl 24 t.out ?_;rintro e Q ⟨rfl,f⟩;have W:=F.out.go f;replace F:=Hd W;have s:=aW W;have N:=Hd trivial;obtain⟨b3,C,D,P,G,o,⟨-,-,-,-,B,-⟩,-,-,-,-,-⟩:=(H.a.go W.bl).iw H.b;cases o;rw[H.v]at B;clear W f)
  |fail)
 exact⟨rfl,.tuple #[.slice A n c,.int .i64 0],by simp[results,go_sem],A,n,c,rfl,E.a,E.u⟩
theorem aec{nc:Nat}{l:List Int}(h:∀(j:Nat) (y:Int),l[j]?=some y->y=0\/y=if j=nc+1 then 2 else 1):abd nc l=true:=by unfold abd;rw[cT];intro j C;have a:=ga.1 C;have b:=h j _ (cd a);rw[cC,cd a,eK,ie,eW,eW];exact b
def afC(r:aS)(k:Nat)(x:aJ):Prop:=x.2.2.2.2.1=false/\x.2.2.2.2.2.1=false/\abd r.aT.length (aaJ r.aT.length k (au x))=true
theorem aeV(hr:dG w M r s1 s2 s3 s4 s5 s6 s7)(hS:aa_ r)(hx:r.rounds[k]?=some x)(hM:b_ M w)(hc:r.aT.length<=1000)(hk:k<=1000):
 Calls prog 27 #[.agg (aV r s1 s2 s3 s4 s5 s6 s7).toArray,k] w (Says (afC r k x) w):=by
 refine wid ?_;have HX:=Hd hx;have C:=Hd (fun(hp:x.2.2.2.2.1=false) (V:World) (hb:Below w w V)=>aeU (hr.go hb) hS hx hp (hM.le hb.size) hc hk);obtain⟨P,D⟩:=aC (afC r k x);rw[D];obtain⟨R,f,c1⟩:=s1;obtain⟨A5,n5,c5⟩:=s5;have H:r.aT.length=f:=hr.aT.len;have t:Sl aJ w M A5 n5 c5 r.rounds:=hr.rounds;have ag:=t.small;have af:k<n5:=by rw[<-t.len];exact(bu.1 hx).1
 obtain⟨L,ae,s⟩:=dR ((Fr.nil w).a w (aV r ⟨R,f,c1⟩ s2 s3 s4 ⟨A5,n5,c5⟩ s6 s7) 28);obtain⟨b5,o5,B,m,d,rfl,⟨x0,x1,x2,x3,x4,x5⟩,⟨x6,x7,x8,x9,x10⟩,⟨x11,x12⟩,-,-,hs⟩:=(t.go s.bl).iw hx;obtain⟨W1,N,aa,F1⟩:=fP (w:=L) (s.a L [x.1,x.2.1,x.2.2.1,x.2.2.2.1,x.2.2.2.2.1,x.2.2.2.2.2.1,(au x).kind,(au x).name,(au x).n,(au x).d,.slice B m d,x.2.2.2.2.2.2.2.1,x.2.2.2.2.2.2.2.2] 68);have o0:=aW s;have J:=aW F1;have F:=Hd F1;have HP:=Hd D;rw[H]at C hc;have X:=Hd H;obtain⟨pl,I⟩:=aC x.2.2.2.2.1;obtain⟨fr,E⟩:=aC x.2.2.2.2.2.1;rw[I]at J x4 N F C;rw[E]at J x5 N F;have K:=Hd2 I E;clear s F1 hr t hs hx aa H hS hM D I E;cases pl;rotate_left;·refine ent func27 ntmps27 ?_;exact EJ
 cases fr;rotate_left;·refine ent func27 ntmps27 ?_;exact EJ
 have T:=Hd (C.out rfl W1 F.out.bl);refine ent func27 ntmps27 ?_
 gi_wp2_with (first
  |(refine Cl 64 T.out ?_;rintro e w4 ⟨A,n,c,rfl,Y,hb4⟩;replace F:=Hd (F.out.go hb4);have J:=aW F.out;have hn:=Y.small;have z:=Hd2 Y Y.len;clear hb4 Y)
  |fail)
 obtain⟨l,G⟩:=aC (aaJ f k (au x));rw[G]at z;have W:=Hd G;clear G;gi_loopw[8] (fun i wr=>∃j:Nat,j<=n/\i=j/\w4=wr/\Hid (∀(q:Nat) (y:Int),q<j->l[q]?=some y->y=0\/y=if q=f+1 then 2 else 1)) (fun i _=>n-(intOf i).toNat);case atStart=>exact⟨0,cf _,rfl,rfl,Hd (fun q y v=>by omega)⟩
 case round=>
  obtain⟨j,hj,rfl,rfl,S⟩:=hrel;by_cases ac:j<n
  ·obtain⟨b,o,y,rfl,c0,-,-,g⟩:=z.a.pR ac;have HY:=Hd g;clear g;by_cases O:j=f+1
   ·have ab:(((j:Nat):Int)==((f:Nat):Int)+1)=true:=px;subst O;by_cases p:y=0
    ·subst p;gi_wp2_with (first|(refine⟨bO,?_⟩))
     exact⟨⟨f+1+1,pj,by go_num,pC,Hd (fun q y v g=>by
      by_cases e:q=f+1;·subst e;rw[HY.out]at g;cases g;exact .inl rfl
      exact S.out q y pj g)⟩,by simp[intOf];omega⟩
    have ad:(y !=0)=true:=fu.2 p;by_cases Z:y=2
    ·subst Z;gi_wp2_with (first|(refine⟨bO,?_⟩))
     exact⟨⟨f+1+1,pj,by go_num,pC,Hd (fun q y v g=>by
      by_cases e:q=f+1;·subst e;rw[HY.out]at g;cases g;exact .inr (by rw[if_pos rfl])
      exact S.out q y pj g)⟩,by simp[intOf];omega⟩
    have ai:(y !=2)=true:=fu.2 Z;exact EJ
   have ab:(((j:Nat):Int)==((f:Nat):Int)+1)=false:=px;by_cases p:y=0
   ·subst p;gi_wp2_with (first|(refine⟨bO,?_⟩))
    exact⟨⟨j+1,pj,by go_num,pC,Hd (fun q y v g=>by
     by_cases e:q=j;·subst e;rw[HY.out]at g;cases g;exact .inl rfl
     exact S.out q y pj g)⟩,by simp[intOf];omega⟩
   have ad:(y !=0)=true:=fu.2 p;by_cases Q:y=1
   ·subst Q;gi_wp2_with (first|(refine⟨bO,?_⟩))
    exact⟨⟨j+1,pj,by go_num,pC,Hd (fun q y v g=>by
     by_cases e:q=j;·subst e;rw[HY.out]at g;cases g;exact .inr (by rw[if_neg O])
     exact S.out q y pj g)⟩,by simp[intOf];omega⟩
   have ah:(y !=1)=true:=fu.2 Q;exact EJ
  ·obtain rfl:j=n:=pj;have HQ:=Hd (show P by
    rw[<-HP.out];refine⟨K.a,K.u,?_⟩;rw[X.out,W.out];exact aec fun q y g=>S.out q y (by rw[<-z.u];exact(bu.1 g).1) g)
   clear S;gi_wp2;go_ret;exact Says.yes rfl HQ.out F.out.bl
end
end
section
open Go.RowKit Go.Shelf
abbrev aL:=List (List Int)×List Int×List Int×List fC
def toC(x:aL):dS:=⟨x.1,x.2.1,x.2.2.1,x.2.2.2⟩
section
variable {w:World}{M:List Nat}{x:aL}{t1 t2 t3 t4:dK}
theorem aa2{cs:List Value}(h:Rep.rd w M x cs):∃t1 t2 t3 t4:dK,cs=dI t1 t2 t3 t4/\jE w M (toC x) t1 t2 t3 t4:=by obtain⟨_,_,rfl,⟨a,d,G,rfl,b⟩,_,_,rfl,⟨A2,n2,c2,rfl,h2⟩,_,_,rfl,⟨A3,n3,c3,rfl,h3⟩,A4,n4,c4,rfl,h4⟩:=h;exact⟨⟨a,d,G⟩,⟨A2,n2,c2⟩,⟨A3,n3,c3⟩,⟨A4,n4,c4⟩,rfl,b.less pH,h2,h3,h4⟩
theorem acd(h:jE w M (toC x) t1 t2 t3 t4)(hm:Sl (List Int) w M t1.A t1.n t1.c x.1):Rep.rd w M x (dI t1 t2 t3 t4):=⟨[t1.v],_,rfl,⟨_,_,_,rfl,hm⟩, [t2.v],_,rfl,⟨_,_,_,rfl,h.bonus⟩, [t3.v],_,rfl,⟨_,_,_,rfl,h.malus⟩,_,_,_,rfl,h.prev⟩
theorem Sl.abb{A:Option Addr}{n c k:Nat}{l:List aL}(h:Sl aL w M A n c l)(hk:l[k]?=some x):∃b o,∃t1 t2 t3 t4:dK,A=some ⟨b,o,none⟩/\(w.cell? ⟨b,o+k*4,none⟩=some t1.v/\w.cell? ⟨b,o+k*4+1,none⟩=some t2.v/\w.cell? ⟨b,o+k*4+2,none⟩=some t3.v/\w.cell? ⟨b,o+k*4+3,none⟩=some t4.v)/\jE w M (toC x) t1 t2 t3 t4:=by obtain⟨b,o,e,rfl,a,d⟩:=h.get hk;obtain⟨t1,t2,t3,t4,rfl,K⟩:=aa2 a;exact⟨b,o,t1,t2,t3,t4,rfl,⟨d.2 0 _ rfl,d.2 1 _ rfl,d.2 2 _ rfl,d.2 3 _ rfl⟩,K⟩
end
attribute [local go_sem] cX
section
variable {M:List Nat}{r:aS}{s1 s2 s3 s4 s5 s6 s7:dK}{w:World}{A:Option Addr}{n cp:Nat}{l:List aL}
def FwL(r:aS)(l:List aL):Prop:=l.length<=6/\∀c,c∈l->yI r (toC c)
theorem aeW(hr:dG w M r s1 s2 s3 s4 s5 s6 s7)(hl:Sl aL w M A n cp l)(hM:b_ M w):
 Calls prog 6 #[.agg (aV r s1 s2 s3 s4 s5 s6 s7).toArray,.slice A n cp] w (Says (FwL r l) w):=by
 refine wid ?_;obtain⟨P,hP⟩:=aC (FwL r l);rw[hP];obtain⟨W1,an,F1⟩:=dR ((Fr.nil w).a w (aV r s1 s2 s3 s4 s5 s6 s7) 28);have o1:=aW F1;have F:=Hd F1;have ao:=hl.small;have H:=h_ hr hl hM hl.len;have HP:=Hd hP;clear F1 hr hl hM hP;by_cases h6:((n:Nat):Int)>6;·refine ent func6 ntmps6 ?_;gi_wp2;go_ret;exact Says.no rfl F.out.bl
 obtain⟨Q,hQ⟩:∃Q:Nat->Prop,∀k,Q k↔∀x,x∈l.take k->yI r (toC x):=⟨_,fun _=>pg⟩;have C:=Hd hQ;obtain⟨R,hR⟩:∃R:List Value,aV r s1 s2 s3 s4 s5 s6 s7=R:=⟨_,rfl⟩;have p:=Hd (show ∀V,Fr w V [(w.heap.size,R)]↔Fr w V [(w,aV r s1 s2 s3 s4 s5 s6 s7)]from fun V=>by rw[hR]);have Y:=Hd ((p.out _).2 F.out);clear hQ hR;refine ent func6 ntmps6 ?_;gi_wp2;clear o1;gi_loopw[5] (fun i wr=>∃k:Nat,k<=n/\i=k/\Hid (Q k)/\Hid (Fr w wr [(w.heap.size,R)])) (fun i _=>n-(intOf i).toNat);case atStart=>exact⟨0,cf _,rfl,Hd ((C.out 0).2 po),Y⟩
 case round=>
  obtain⟨k,hk,rfl,hT,hF⟩:=hrel;have F:=Hd ((p.out _).1 hF.out);by_cases D:k<n
  ·obtain⟨x,hx⟩:=dW l k (by rw[H.w];exact D);obtain⟨b,o,t1,t2,t3,t4,rfl,⟨s,t,u,v⟩,hc⟩:=(H.b.go F.out.bl).abb hx;have HC:=Hd (zH ((H.a.go F.out.bl).go (bL wr wr).drew) (hc.go (bL wr wr).drew));have G:=ah (F.out.aQ 0 0);have J:=ah (F.out.aQ 0 1);have L:=ah (F.out.aQ 0 2);have N:=ah (F.out.aQ 0 3);have O:=ah (F.out.aQ 0 4);have S:=ah (F.out.aQ 0 5);have T:=ah (F.out.aQ 0 6);have W:=ah (F.out.aQ 0 7);have X:=ah (F.out.aQ 0 8);have v0:=ah s;have v1:=ah t;have v2:=ah u;have v3:=ah v;have HX:=Hd hx;clear hx s t u v hc;gi_wp2;refine ak [] (List.range 7) pk pk ?_;refine eH ?_;refine aH fun K f=>aA rfl rfl wy fun m d=>?_;gi_wp2;refine Cl 23 HC.out ?_;rintro e w2 I;obtain⟨b,rfl,hb,B⟩:=I.of;have F2:=Hd (F.out.drew.go B);have HB:=Hd hb;refine d _ _ ⟨?_,f _ _ ?_⟩;clear d m f K;·exact bq B _
   clear hb B I G J L N O S T W X v0 v1 v2 v3;cases b
   all_goals
    refine lit ?_;refine eH ?_;refine aK ?_;refine lit ?_;gi_wp2
   ·go_ret;exact Says.no rfl F2.out.bl
   exact⟨⟨k+1,pj,by go_num,Hd ((C.out _).2 (bY HX.out ((C.out k).1 hT.out) (HB.out pC))),Hd ((p.out _).2 F2.out)⟩,by simp[intOf];omega⟩
  ·obtain rfl:k=n:=pj;have HE:=Hd (show P by
    rw[<-HP.out];refine⟨by rw[H.w];omega,?_⟩;have h:=(C.out k).1 hT.out
    rwa [bR (by rw[H.w];exact bj _)]at h)
   have o1:=aW F.out;have ae:=Hd (abw (H.a.go F.out.bl) (H.c.le F.out.bl.size));clear hk D hT
   gi_wp2_with (first
    |(refine Cl 24 ae.out ?_;rintro e w2 I;obtain⟨K,rfl,f,B⟩:=I.of;replace F:=Hd (F.out.go B);have o2:=aW F.out;have HK:=Hd f;clear B I f;obtain⟨z,E⟩:=aC (K !=0);cases z)
    |fail)
   rotate_left;·go_ret;exact Says.yes rfl HE.out F.out.bl
   have ab:K=0:=by simpa using E
   have HS:=Hd (HK.out.1 ab);subst ab;clear E;have Y:=Hd ((p.out _).2 F.out);have ac:=H.a.aT.len;have af:=Hd ac;have am:=H.a.aT.small;clear o2 F ac;gi_loopw[6] (fun i wr=>∃j:Nat,j<=k/\i=j/\Hid (Fr w wr [(w.heap.size,R)])) (fun i _=>k-(intOf i).toNat);case atStart=>exact⟨0,cf _,rfl,Y⟩
   case round=>
    obtain⟨j,hj,rfl,hF⟩:=hrel;have F:=Hd ((p.out _).1 hF.out);by_cases D:j<k
    ·obtain⟨x,hx⟩:=dW l j (by rw[H.w];exact D);obtain⟨b,o,t1,t2,t3,t4,rfl,⟨s,t,u,v⟩,hc⟩:=(H.b.go F.out.bl).abb hx;have G:=ah (F.out.aQ 0 0);have J:=ah (F.out.aQ 0 1);have L:=ah (F.out.aQ 0 2);have N:=ah (F.out.aQ 0 3);have O:=ah (F.out.aQ 0 4);have S:=ah (F.out.aQ 0 5);have T:=ah (F.out.aQ 0 6);have W:=ah (F.out.aQ 0 7);have X:=ah (F.out.aQ 0 8);have v0:=ah s;have v1:=ah t;have v2:=ah u;have v3:=ah v;have aq:=hc.marks.small;by_cases ai:t1.n=s1.n;rotate_left;·have ag:(((t1.n:Nat):Int)==((s1.n:Nat):Int))=false:=px;clear hx s t u v hc;gi_wp2;refine ak [] (List.range 28) pk pk ?_;refine eH ?_;refine aK ?_;refine lit ?_;gi_wp2;exact⟨⟨j+1,pj,by go_num,Hd ((p.out _).2 F.out.drew)⟩,by simp[intOf];omega⟩
     have ag:(((t1.n:Nat):Int)==((s1.n:Nat):Int))=true:=px;have HM:=Hd (fun V (hb:Below wr wr V)=>acU (lim:=5040) ((H.a.go F.out.bl).go hb) (hc.go hb) (fun y hy=>HS.out.1.2.1.aT y hy) (by rw[af.out,hc.marks.len];omega) pj);obtain⟨Z,hZ⟩:=aC (aat 5040 r.aT (aa 0 (toC x).marks) 1);rw[hZ]at HM;have HB:=Hd (show Below wr wr wr.drew from pE.drew);have HY:=h_ s t u v;clear hx s t u v hc hZ ai;by_cases E:Z>300;rotate_left
     ·have al:decide (300<Z)=false:=cE pj;gi_wp2;refine ak [] (List.range 28) pk pk ?_;refine eH ?_;refine aH fun K f=>aA rfl rfl wy fun m d=>?_;gi_wp2;refine Cl 25 (HM.out _ HB.out) ?_;rintro e w3 ⟨rfl,q⟩;have F3:=Hd (F.out.drew.go q);refine d _ _ ⟨?_,f _ _ ?_⟩;clear d m f K;·exact bq q _
      clear q;refine lit ?_;refine eH ?_;refine aK ?_;refine lit ?_;gi_wp2;exact⟨⟨j+1,pj,by go_num,Hd ((p.out _).2 F3.out)⟩,by simp[intOf];omega⟩
     have al:decide (300<Z)=true:=cx pj;have ap:decide (Z>300)=true:=cx pj;clear E;by_cases ad:Z<=5040
     ·have aj:decide (Z<=5040)=true:=cx ad;gi_wp2;refine ak [] (List.range 28) pk pk ?_;refine eH ?_;refine aH fun K f=>aA rfl rfl wy fun m d=>?_;gi_wp2;refine Cl 25 (HM.out _ HB.out) ?_;rintro e w3 ⟨rfl,q⟩;have F3:=Hd (F.out.drew.go q);have g:=Hd (HB.out.trans (q.mono HB.out.size));refine d _ _ ⟨?_,f _ _ ?_⟩;clear d m f K;·exact bq q _
      have o5:=ab7 F3.out;have x0:=stays ((bq g.out []).cell po HY.a);have x1:=stays ((bq g.out []).cell po HY.b);have x2:=stays ((bq g.out []).cell po HY.c);have x3:=stays ((bq g.out []).cell po HY.w);clear q G J L N O S T W X v0 v1 v2 v3;refine lit ?_;refine eH ?_;refine aH fun K f=>aA rfl rfl wy fun m d=>?_;gi_wp2;refine Cl 25 (HM.out _ g.out) ?_;rintro e w4 ⟨rfl,hb4⟩;have F4:=Hd (F3.out.go hb4);refine d _ _ ⟨?_,f _ _ ?_⟩;clear d m f K;·exact bq hb4 _
      clear hb4;refine lit ?_;refine eH ?_;refine aK ?_;refine lit ?_;gi_wp2;go_ret;exact Says.no rfl F4.out.bl
     have aj:decide (Z<=5040)=false:=cE ad;gi_wp2;refine ak [] (List.range 28) pk pk ?_;refine eH ?_;refine aH fun K f=>aA rfl rfl wy fun m d=>?_;gi_wp2;refine Cl 25 (HM.out _ HB.out) ?_;rintro e w3 ⟨rfl,q⟩;have F3:=Hd (F.out.drew.go q);have g:=Hd (HB.out.trans (q.mono HB.out.size));refine d _ _ ⟨?_,f _ _ ?_⟩;clear d m f K;·exact bq q _
     have o5:=ab7 F3.out;have x0:=stays ((bq g.out []).cell po HY.a);have x1:=stays ((bq g.out []).cell po HY.b);have x2:=stays ((bq g.out []).cell po HY.c);have x3:=stays ((bq g.out []).cell po HY.w);clear q G J L N O S T W X v0 v1 v2 v3;refine lit ?_;refine eH ?_;refine aH fun K f=>aA rfl rfl wy fun m d=>?_;gi_wp2;refine Cl 25 (HM.out _ g.out) ?_;rintro e w4 ⟨rfl,hb4⟩;have F4:=Hd (F3.out.go hb4);refine d _ _ ⟨?_,f _ _ ?_⟩;clear d m f K;·exact bq hb4 _
     clear hb4;refine lit ?_;refine eH ?_;refine aK ?_;refine lit ?_;gi_wp2;exact⟨⟨j+1,pj,by go_num,Hd ((p.out _).2 F4.out)⟩,by simp[intOf];omega⟩
    ·obtain rfl:j=k:=pj;gi_wp2;go_ret;exact Says.yes rfl HE.out F.out.bl
def afD(r:aS)(i:Int)(l:List aL)(en:Int):Prop:=aa_ r/\∃(k:Nat) (x:aJ) (e:Nat),i=(k:Int)/\r.rounds[k]?=some x/\(∀c,c∈l->kS r k x.2.1 (toC c)=true)/\afC r k x/\en=(e:Int)/\e<l.length
theorem adi{x:aJ}{k:Nat}(h:aa_ r)(hx:r.rounds[k]?=some x):∀y,y∈r.aT->fJ (rX y)=true:=fun y hy=>DX (h.1.2.1.aT y hy) (MN (h.1.2.1.rounds x (bh hx)) hy)
theorem afE{i en:Int}(hr:dG w M r s1 s2 s3 s4 s5 s6 s7)(hl:Sl aL w M A n cp l)(hM:b_ M w)(h6:n<=6):
 Calls prog 7 #[.agg (aV r s1 s2 s3 s4 s5 s6 s7).toArray,i,.slice A n cp,en] w (iD (afD r i l en) w):=by
 refine wid ?_;obtain⟨P,y⟩:=aC (afD r i l en);rw[y];obtain⟨W1,ae,F1⟩:=dR ((Fr.nil w).a w (aV r s1 s2 s3 s4 s5 s6 s7) 28);have X:=aW F1;have F:=Hd F1;have H:=h_ hr hl hM hl.len;have HP:=Hd y;have t:=Hd (abw (hr.go F1.bl) (hM.le F1.bl.size));have O:=hr.rounds.len;have ad:=hr.rounds.small;have G:=Hd O;clear F1 hr hl hM y O;by_cases hi:i<0;·have ai:(decide (i<0))=true:=cx hi;exact A_
 obtain⟨k,rfl⟩:∃k:Nat,i=(k:Int):=⟨i.toNat,pj⟩;by_cases hk:s5.n<=k;·have ab:((k:Nat):Int)>=((s5.n:Nat):Int):=pj;exact A_
 obtain⟨x,hx⟩:=dW r.rounds k (by rw[G.out];omega);have ab:¬((k:Nat):Int)>=((s5.n:Nat):Int):=pj;have HX:=Hd hx;clear hx;obtain⟨R,T⟩:∃R:List Value,aV r s1 s2 s3 s4 s5 s6 s7=R:=⟨_,rfl⟩;have s:=Hd (show ∀V,Fr w V [(w.heap.size,R)]↔Fr w V [(w,aV r s1 s2 s3 s4 s5 s6 s7)]from fun V=>by rw[T]);clear T;refine ent func7 ntmps7 ?_
 gi_wp2_with (first
  |(refine Cl 24 t.out ?_;rintro e Y I;obtain⟨K,rfl,f,d⟩:=I.of;replace F:=Hd (F.out.go d);have E:=aW F.out;have q:=Hd f;clear d I f;obtain⟨z,m⟩:=aC (K !=0);cases z)
  |fail)
 rotate_left;·go_ret;exact iD.bad rfl (fu.1 m) F.out.bl
 have S:K=0:=by simpa using m
 have g:=Hd (q.out.1 S);subst S;clear m;have F0:=Hd ((s.out _).2 F.out);clear X E F;gi_loopw[10] (fun v wr=>∃j:Nat,j<=n/\v=j/\Hid (∀c,c∈l.take j->kS r k x.2.1 (toC c)=true)/\Hid (Fr w wr [(w.heap.size,R)])) (fun v _=>n-(intOf v).toNat);case atStart=>exact⟨0,cf _,rfl,Hd po,F0⟩
 case round=>
  obtain⟨j,hj,rfl,B,hF⟩:=hrel;have F:=Hd ((s.out _).1 hF.out);by_cases W:j<n
  ·obtain⟨c,D⟩:=dW l j (by rw[H.w];exact W);obtain⟨b,o,t1,t2,t3,t4,rfl,⟨Z,y1,y2,y3⟩,hcs⟩:=(H.b.go F.out.bl).abb D;have N:=Hd (MJ ((H.a.go F.out.bl).go (bL wr wr).drew) (hcs.go (bL wr wr).drew) HX.out (adi g.out HX.out) (H.c.le (w':=wr.drew) F.out.bl.size));obtain⟨z,m⟩:=aC (kS r k x.2.1 (toC c));rw[m]at N;have u0:=ah (F.out.aQ 0 0);have u1:=ah (F.out.aQ 0 1);have u2:=ah (F.out.aQ 0 2);have u3:=ah (F.out.aQ 0 3);have u4:=ah (F.out.aQ 0 4);have u5:=ah (F.out.aQ 0 5);have u6:=ah (F.out.aQ 0 6);have u7:=ah (F.out.aQ 0 7);have u8:=ah (F.out.aQ 0 8);have v0:=ah Z;have v1:=ah y1;have v2:=ah y2;have v3:=ah y3;have L:=Hd2 D m;clear D m Z y1 y2 y3 hcs;gi_wp2;refine ak [] (List.range 8) pk pk ?_;refine eH ?_;refine aH fun K f=>aA rfl rfl wy fun K' Q=>?_;gi_wp2;refine Cl 26 N.out ?_;rintro e J ⟨rfl,C⟩;have F3:=Hd (F.out.drew.go C);refine Q _ _ ⟨?_,f _ _ ?_⟩;clear Q K' f K;·exact bq C _
   clear C u0 u1 u2 u3 u4 u5 u6 u7 u8 v0 v1 v2 v3;cases z
   all_goals
    refine lit ?_;refine eH ?_;refine aK ?_;refine lit ?_;gi_wp2
   ·go_ret;exact iD.bad rfl pt F3.out.bl
   exact⟨⟨j+1,pj,by go_num,Hd (bY L.a B.out L.u),Hd ((s.out _).2 F3.out)⟩,by simp[intOf];omega⟩
  ·obtain rfl:j=n:=pj;have HA:=Hd (show ∀c,c∈l->kS r k x.2.1 (toC c)=true by have h:=B.out;rwa [bR (by rw[H.w];exact bj _)]at h);have X:=aW F.out;have p:=(abu (Dn (Dl g.b).1).1).len;have HL:=Hd (aeV (H.a.go F.out.bl) g.out HX.out (H.c.le F.out.bl.size) p.1 (by have h:=p.2.2.2;rw[G.out]at h;omega));have ac:=Hd p;clear hj W B p;by_cases he:en<0
   ·have af:decide (en<0)=true:=cx he
    gi_wp2_with (first
     |(refine Cl 27 HL.out ?_;rintro e J I;obtain⟨b,rfl,hb,d⟩:=I.of;replace F:=Hd (F.out.go d);have HB:=Hd hb;clear hb d I;cases b)
     |(refine⟨bO,?_⟩))
    all_goals
     go_ret;exact iD.bad rfl pt F.out.bl
   obtain⟨e,rfl⟩:∃e:Nat,en=(e:Int):=⟨en.toNat,pj⟩;by_cases ag:j<=e
   ·have aa:((e:Nat):Int)>=((j:Nat):Int):=pj
    gi_wp2_with (first
     |(refine Cl 27 HL.out ?_;rintro e J I;obtain⟨b,rfl,hb,d⟩:=I.of;replace F:=Hd (F.out.go d);have HB:=Hd hb;clear hb d I;cases b)
     |fail)
    all_goals
     go_ret;exact iD.bad rfl pt F.out.bl
   have aa:¬((e:Nat):Int)>=((j:Nat):Int):=pj
   gi_wp2_with (first
    |(refine Cl 27 HL.out ?_;rintro e J I;obtain⟨b,rfl,hb,d⟩:=I.of;replace F:=Hd (F.out.go d);have HB:=Hd hb;clear hb d I;cases b)
    |fail)
   ·go_ret;exact iD.bad rfl pt F.out.bl
   go_ret;exact iD.ok rfl (by rw[<-HP.out];exact⟨g.out,k,x,e,rfl,HX.out,HA.out,HB.out pC,rfl,by rw[H.w];omega⟩) F.out.bl
end
theorem acf{lim:Int}(hl:0<=lim/\lim<=5040){cs:List bT}(hk:∀x,x∈cs->rC x):∀{L:List (Nat×Nat)}{n:Int},1<=n->n<=6000000->1<=aat lim cs L n/\aat lim cs L n<=6000000
 | [],n,h1,h2=>⟨h1,h2⟩
 |q::L,n,h1,h2=>by
  rw[aat];have hp:=aaO (cs.getD q.1 aD);have hs:(af (cs.getD q.1 aD)).length<=1001:=by
   rw[cC]
   cases e:cs[q.1]? with
   |none=>decide
   |some c=>exact(aaT (hk c (bh e))).2
  by_cases a:n<=lim;·rw[if_pos a];have a1:=ix h1 (show(1:Int)<=(((af (cs.getD q.1 aD)).length:Nat):Int) by omega) pj pj;have a2:=ix (show n<=5040 by omega) (show(((af (cs.getD q.1 aD)).length:Nat):Int)<=1001 by omega) pj pj;exact acf hl hk pj pj
  rw[if_neg a];exact acf hl hk h1 h2
def abg(lim:Int)(cs:List bT):List (List (List Int))->Int->Int
 | [],n=>n
 |s::L,n=>if lim<n*aat lim cs (aa 0 s) 1 then n*aat lim cs (aa 0 s) 1 else abg lim cs L (n*aat lim cs (aa 0 s) 1)
theorem adO{lim:Int}(hl:0<=lim/\lim<=5040){cs:List bT}(hk:∀x,x∈cs->rC x):∀{L:List (List (List Int))}{n:Int},1<=n->abg lim cs L n<=lim->abg lim cs L n=n*(((L.map fun s=>manyN cs (aa 0 s)).prod:Nat):Int)
 | [],n,_,_=>by simp[abg]
 |s::L,n,h1,h=>by
  obtain⟨y1,y2⟩:=acf (L:=aa 0 s) hl hk (n:=1) pj pj;obtain⟨m1,m2⟩:= @acT lim cs (aa 0 s) 1 pj;rw[abg]at h |-;obtain⟨y,hy⟩:=aC (aat lim cs (aa 0 s) 1);rw[hy]at h y1 y2 m1 m2 |-;by_cases hg:lim<n*y;·rw[if_pos hg]at h;omega
  rw[if_neg hg]at h |-;have p1:=ix h1 y1 pj pj;have p2:=Int.mul_le_mul_of_nonneg_right h1 (show 0<=y by omega);have hm:y=((manyN cs (aa 0 s):Nat):Int):=by
   by_cases a:(1:Int)*((manyN cs (aa 0 s):Nat):Int)<=lim;·have:=m1 a;omega
   have:=m2 pj;omega
  rw[adO hl hk pj h,eV,List.prod_cons,eI,<-hm,Int.mul_assoc]
section
variable {r:aS}{s1 s2 s3 s4 s5 s6 s7:dK}{w:World}{A:Option Addr}{n c:Nat}{os:List aL}{lim:Int}
theorem ae0(hr:dG w [] r s1 s2 s3 s4 s5 s6 s7)(hs:Sl aL w [] A n c os)(hk:∀x,x∈r.aT->rC x)(hl:∀x,x∈os->x.1.length<=r.aT.length)(hlim:1<=lim/\lim<=5040):
 CB 8 #[.agg (aV r s1 s2 s3 s4 s5 s6 s7).toArray,.slice A n c,lim] (.int .i64 (abg lim r.aT (os.map (·.1)) 1)) w:=by
 refine wid ?_;have T:os.length=n:=hs.len;have W:=hs.small;obtain⟨W1,R,F1⟩:=dR ((Fr.nil w).a w (aV r s1 s2 s3 s4 s5 s6 s7) 28);have K:=aW F1;have F:=Hd F1;obtain⟨Z,s⟩:=aC (abg lim r.aT (os.map (·.1)) 1);rw[s];have HZ:=Hd s;have H:=h_ hr hs hk hl;clear F1 hr hs hk hl s;refine ent func8 ntmps8 ?_;gi_wp2;clear K;gi_loopw[7,12] (fun a i wr=>∃(k:Nat) (g:Int),k<=n/\i=k/\a=g/\1<=g/\g<=lim/\Hid (abg lim r.aT ((os.drop k).map (·.1)) g=Z)/\Hid (Fr w wr [(w,aV r s1 s2 s3 s4 s5 s6 s7)])) (fun _ i _=>n-(intOf i).toNat);case atStart=>exact Y3
 case round=>
  obtain⟨k,g,hk,rfl,rfl,G,Q,j,d⟩:=hrel;by_cases V:k<n
  ·obtain⟨x,hx⟩:=dW os k pj;have D:=H.w x (bh hx);obtain⟨b,o,t1,t2,t3,t4,rfl,⟨v0,v1,v2,v3⟩,hcd⟩:=(H.b.go d.out.bl).abb hx;have X:=aW d.out;obtain⟨P,S,f,v⟩:=fP (w:=wr) ((Fr.nil wr).a wr (dI t1 t2 t3 t4) 42);have Y:=aW (d.out.go f);have o4:=aW v;obtain⟨y,m⟩:=aC (aat lim r.aT (aa 0 x.1) 1);have HM:=Hd (acU (lim:=lim) ((H.a.go d.out.bl).go f) (hcd.go f) H.c D pj);rw[show(toC x).marks=x.1 from rfl,m]at HM;obtain⟨t,u⟩:=acf (L:=aa 0 x.1) (lim:=lim) pj H.c (n:=1) pj pj;rw[m]at t u;have N:1<=g*y:=by
    have:=ix G t pj pj;omega
   have p2:g*y<=40000000000:=by have:=ix (show g<=5040 by omega) u pj pj;omega
   have p3:IntKind.i64.wrap (g*y)=g*y:=by rw[cA];omega
   have B:=Hd (show(if lim<g*y then g*y else abg lim r.aT ((os.drop (k+1)).map (·.1)) (g*y))=Z by have h:=j.out;obtain⟨J,e⟩:=bu.1 hx;rw[cL J,e,eV,abg,m]at h;exact h);have z:=Hd (d.out.go f);clear j hx D hcd m t u v f d;by_cases C:lim<g*y
   ·have I:decide (g*y>lim)=true:=cx C
    gi_wp2_with (first
     |(refine Cl 25 HM.out ?_;rintro e O ⟨rfl,q⟩;have p:=Hd (z.out.go q);clear q)
     |fail)
    go_ret;exact⟨by rw[<-B.out,if_pos pj];rfl,p.out.bl⟩
   have I:decide (g*y>lim)=false:=cE C
   gi_wp2_with (first
    |(refine Cl 25 HM.out ?_;rintro e O ⟨rfl,q⟩;have p:=Hd (z.out.go q);clear q)
    |fail)
   exact⟨⟨k+1,g*y,pj,by go_num,rfl,N,pj,Hd (by rw[<-B.out,if_neg pj]),p⟩,by simp[intOf];omega⟩
  ·have E:=Hd (show g=Z by
     have h:=j.out
     rwa [cB pj]at h)
   clear j;gi_wp2;go_ret;exact⟨by rw[E.out];rfl,d.out.bl⟩
end
end
