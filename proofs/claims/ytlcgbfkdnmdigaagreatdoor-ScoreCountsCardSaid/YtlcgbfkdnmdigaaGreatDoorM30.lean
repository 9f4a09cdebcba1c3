/- Lemmas and walks; no statement is proved here. -/
import Derived.Test.YtlcgbfkdnmdigaaGreatDoorM29
import Derived.Test.YtlcgbfkdnmdigaaGreatDoorM25
set_option linter.unusedVariables false
set_option linter.unusedSimpArgs false
set_option maxRecDepth 20000
set_option maxHeartbeats 6000000
namespace Go.Proofs.YtlcgbfkdnmdigaaGreatDoor
open Go.Proofs.Tryz
theorem agQ{p:Prop}(h:p:=by rintro e w2 ⟨rfl,hb2⟩;have F2:=Hd (hF.out.drew.go hb2);exact aeD):p:=h
theorem aeD{p:Prop}(h:p:=by
 refine hK' _ _ ⟨?_,hK _ _ ?_⟩;clear hK' K' hK K;·exact Keeps.of_below hb2 _
 clear hb2;refine lit ?_;refine eH ?_;refine aK ?_;refine lit ?_;gi_wp2):p:=h
theorem aeP{p:Prop}(h:p:=by
 skip
 clear hs ht;refine ent func145 rfl ntmps145 ?_;gi_wp2;go_ret;exact⟨by rw[HR.out];first|rfl|simp,HF.out.bl⟩):p:=h
theorem aeQ{p:Prop}(h:p:=by have HN:=Hd hn;clear hn;gi_wp2;refine aP [] 9 (by kernel_rfl) (by kernel_rfl) ?_;refine ay 0 ?_;refine ay 1 ?_;refine ay 2 ?_;refine ay 3 ?_;refine ay 4 ?_;refine ay 5 ?_;refine ay 6 ?_;refine ay 7 ?_;refine ay 8 ?_;refine iq 0 ?_;refine tail_nil _ ?_;simp only[cu];gi_wp2;exact⟨⟨k+1,by omega,by go_num,hb.drew⟩,by simp[intOf];omega⟩):p:=h
theorem agD{p:Prop}(h:p:=by
 obtain rfl:k=n:=by omega
 clear hk hlt hn;gi_wp2;go_ret;exact⟨rfl,hb⟩):p:=h
variable {r:aS}{nm cn rn:List ByteArray}{s:ByteArray}{p:Int}{M M':List Nat}{A B:Option Addr}{n c:Nat}{w:World}
theorem GZ(x:aU):∀y,fE x y=true↔x=y:=by
 induction x using iY with
 |_ x ih=>
  have key:∀l l':List aU,(∀y,y∈l->∀z,fE y z=true↔y=z)->(fQ l l'=true↔l=l'):=by
   intro l
   induction l with
   |nil=>
    intro l' _
    cases l' with
    |nil=>simp[fQ]
    |cons _ _=>simp[fQ]
   |cons a l ihl=>
    intro l' h
    cases l' with
    |nil=>simp[fQ]
    |cons b l'=>rw[fQ,Bool.and_eq_true,h a List.mem_cons_self b,ihl l' (fun y hy=>h y (List.mem_cons_of_mem _ hy)),List.cons.injEq]
  intro y;rw[KA];simp only[Bool.and_eq_true,decide_eq_true_eq,key x.l y.l ih];cases x;cases y;simp[aU.kind,aU.name,aU.n,aU.d,aU.l,and_assoc]
def xU(r:aS)(k:bK):Bool:=decide (iW (dP r) (dQ r) (jF r) k=k)
def KE(r:aS)(y:aJ):Bool:=decide ((vO r y).2.2.2.2.2.2.2.2=y.2.2.2.2.2.2.2.2)&&fE (fH (dP r) (dQ r) (au y)) (au y)
def xX(r:aS):Bool:=(r.ties.all fun t=>t.2.all (xU r))&&r.rounds.all (KE r)
def xY(r:aS):Int:=if jJ r=0 then(if xX r=true then 0 else 140)else jJ r
theorem Dl(h:xY r=0):jJ r=0/\xX r=true:=by
 unfold xY at h;split at h
 ·rename_i h1;split at h;·rename_i h2;exact⟨h1,h2⟩
  cases h
 rename_i h1;exact absurd h h1
theorem Dn(h:jJ r=0):fD r=true/\uZ r 4=true/\Fb r 4=false/\Yc r=true:=by
 unfold jJ at h
 cases h1:fD r with
 |false=>rw[h1,if_pos rfl]at h;cases h
 |true=>
  cases h2:uZ r 4 with
  |false=>rw[h1,h2,if_neg (by simp),if_pos rfl]at h;cases h
  |true=>
   cases h3:Fb r 4 with
   |true=>rw[h1,h2,h3,if_neg (by simp),if_neg (by simp),if_pos rfl]at h;cases h
   |false=>
    cases h4:Yc r with
    |false=>rw[h1,h2,h3,h4,if_neg (by simp),if_neg (by simp),if_neg (by simp),if_pos rfl]at h;cases h
    |true=>exact⟨rfl,rfl,rfl,rfl⟩
theorem Qi{nm:List ByteArray}:∀(n:Nat),vN nm n=false->∀(k:Nat) (s:ByteArray),k<n->nm[k]?=some s->dO nm s=(k:Int)
 |0,_,k,_,hk,_=>by omega
 |n+1,h,k,s,hk,hs=>by
  unfold vN at h;rw[Bool.or_eq_false_iff]at h;by_cases e:k=n;·subst e;have h2:=of_decide_eq_false h.2;rw[List.getD_eq_getElem?_getD,hs]at h2;exact Classical.byContradiction h2
  exact Qi n h.1 k s (by omega) hs
theorem xZ(h:vN nm nm.length=false):dX nm nm.length=true:=Qb (fun k s hs=>Qi _ h k s (List.getElem?_eq_some_iff.1 hs).1 hs) _ (Nat.le_refl _)
theorem G_(h:bZ s=true):s.size<=maxLen:=by unfold bZ nameB at h;simp only[Bool.and_eq_true,decide_eq_true_eq]at h;have:=h.1.1.1.2;unfold maxLen;omega
theorem Dp(h:s.toList= []):s.size<=maxLen:=by
 rw[Lib.toList_data]at h;have:s.size=0:=by show s.data.size=0;rw[<-Array.length_toList,h];rfl
 rw[this];exact Nat.zero_le _
theorem uG(hf:nm.all bZ=true)(h:0<=dO nm s):s.size<=maxLen:=by obtain⟨k,hk⟩:∃k:Nat,dO nm s=(k:Int):=⟨(dO nm s).toNat,by omega⟩;exact G_ (List.all_eq_true.1 hf s (List.mem_of_getElem? (I8 hk)))
theorem Qj{α:Type}{f:α->α}:∀{l:List α},l.map f=l->∀x,x∈l->f x=x
 |y::l,h,x,hx=>by
  rw[List.map_cons,List.cons.injEq]at h;rcases List.mem_cons.1 hx with rfl|hx;·exact h.1
  exact Qj h.2 x hx
theorem Qk{α:Type}{f:α->α}:∀{l:List α},(∀x,x∈l->f x=x)->l.map f=l
 | [],_=>rfl
 |y::l,h=>by rw[List.map_cons,h y List.mem_cons_self,Qk (fun x hx=>h x (List.mem_cons_of_mem _ hx))]
theorem aaN(hc:dX cn cn.length=true)(hr:dX rn rn.length=true)(x:aU):okR cn rn x=true->fH cn rn x=x->iV cn rn x=false/\lC cn rn x=x:=by
 induction x using iY with
 |_ x ih=>
  intro h1 h2;obtain⟨k,s,n,d,l⟩:=x;rw[okR,Bool.and_eq_true,qC,List.all_eq_true]at h1;rw[iV,lC];have h2':=h2;rw[fH,mg,aU.mk.injEq]at h2';replace ih:∀y,y∈l->okR cn rn y=true->fH cn rn y=y->iV cn rn y=false/\lC cn rn y=y:=ih;obtain⟨-,-,hn,-,hl⟩:=h2';have hl':=Qj hl;have hch:=fun y hy=>ih y hy (h1.2 y hy) (hl' y hy);have e1:Gv cn rn l=false:=by rw[nP,List.any_eq_false];intro y hy;rw[(hch y hy).1];simp
  have e2:E5 cn rn l=l:=by rw[xH];exact Qk (fun y hy=>(hch y hy).2)
  rw[e1,e2,Bool.or_false];have h3:=h1.1;unfold sO qW;by_cases k2:k=2;·rw[if_pos k2]at hn h3;have:=qB hc (of_decide_eq_true h3);rw[if_pos k2,if_pos k2,this.2,hn];exact⟨this.1,rfl⟩
  ·rw[if_neg k2]at hn h3;rw[if_neg k2,if_neg k2];by_cases k5:k=5;·rw[if_pos k5]at hn h3;have:=qB hr (of_decide_eq_true h3);rw[if_pos k5,if_pos k5,this.2,hn];exact⟨this.1,rfl⟩
   rw[if_neg k5,if_neg k5];exact⟨rfl,rfl⟩
theorem N_{k:Int}{nu:Bool}(h:qZ vT k=some (u_ p nu true)):k=2\/k=5:=by
 simp only[vT,qZ]at h;by_cases h2:k=2;·exact .inl h2
 by_cases h5:k=5;·exact .inr h5
 exfalso
 repeat' split at h
 all_goals first|omega|(simp[u_]at h)
theorem Yg{y:aU}(h:pX y)(h2:¬y.kind=2)(h5:¬y.kind=5):y.name.toList= []:=by
 obtain⟨nu,re,h,hn,-⟩:=h
 cases re with
 |false=>exact hn rfl
 |true=>exact absurd (N_ h) (by omega)
theorem Yh(hc:cn.all bZ=true)(hr:rn.all bZ=true)(x:aU):okR cn rn x=true->(∀y,y∈iZ x->¬y.kind=2->¬y.kind=5->y.name.toList= [])->Ut x:=by
 induction x using iY with
 |_ x ih=>
  intro h1 h2;rw[I9,Bool.and_eq_true,qC,List.all_eq_true]at h1;have h0:=h2 x (by rw[lW];exact List.mem_cons_self);have hch:∀y,y∈x.l->Ut y:=fun y hy=>ih y hy (h1.2 y hy) (fun z hz=>h2 z (by rw[lW];exact List.mem_cons_of_mem _ (qF hy hz)));have key:∀l:List aU,(∀y,y∈l->Ut y)->XU l:=by
   intro l
   induction l with
   |nil=>intro _;rw[XU];trivial
   |cons a l ihl=>intro h;rw[XU];exact⟨h a List.mem_cons_self,ihl fun y hy=>h y (List.mem_cons_of_mem _ hy)⟩
  have hs:x.name.size<=maxLen:=by
   have h3:=h1.1;by_cases k2:x.kind=2;·rw[if_pos k2]at h3;exact uG hc (of_decide_eq_true h3)
   rw[if_neg k2]at h3;by_cases k5:x.kind=5;·rw[if_pos k5]at h3;exact uG hr (of_decide_eq_true h3)
   exact Dp (h0 k2 k5)
  have:=key x.l hch;cases x;rw[Ut];exact⟨hs,this⟩
theorem Oa{tn:List ByteArray}{k:bK}(hc:dX cn cn.length=true)(hr:dX rn rn.length=true)(ht:dX tn tn.length=true)(h1:I_ cn rn tn k=true)(h2:iW cn rn tn k=k):
 (k.1=1->0<=dO cn k.2.1/\lU cn k.2.1 k.2.2)/\(k.1=2->0<=dO rn k.2.1/\lU rn k.2.1 k.2.2)/\(k.1=5->0<=dO tn k.2.1/\lU tn k.2.1 k.2.2):=by
 obtain⟨kd,nm,n⟩:=k;unfold iW at h2;unfold I_ at h1;simp only at h1 h2 |-;refine⟨fun e=>?_,fun e=>?_,fun e=>?_⟩;·rw[if_pos e]at h1 h2;simp only[Prod.mk.injEq,true_and]at h2;have h3:=of_decide_eq_true h1;exact⟨h3,h2▸qB hc h3⟩
 ·rw[if_neg (by omega),if_pos e]at h1 h2;simp only[Prod.mk.injEq,true_and]at h2;have h3:=of_decide_eq_true h1;exact⟨h3,h2▸qB hr h3⟩
 ·rw[if_neg (by omega),if_neg (by omega),if_pos e]at h1 h2;simp only[Prod.mk.injEq,true_and]at h2;have h3:=of_decide_eq_true h1;exact⟨h3,h2▸qB ht h3⟩
structure RF(r:aS):Prop where
 parts:∀y,y∈r.rounds->nodes (au y)<=1000
 len:r.aT.length<=1000/\r.bonus.length+r.malus.length<=1000/\r.ties.length<=1000/\r.rounds.length<=1000
 NT:∀t,t∈r.ties->t.2.length<=1000
theorem aaO(hc:xY r=0)(hw:RF r)(hf:F15 r):ZH r:=by
 obtain⟨h1,h2⟩:=Dl hc;obtain⟨g1,g2,g3,g4⟩:=Dn h1;have g2':(bZ r.name&&(dP r).all bZ&&(UG r).all bZ&&(jF r).all bZ&&(dQ r).all bZ)=true:=g2;have g3':(false||vN (dP r) (dP r).length||vN (UG r) (UG r).length||vN (jF r) (jF r).length||vN (dQ r) (dQ r).length)=false:=g3;simp only[Bool.and_eq_true]at g2';simp only[Bool.or_eq_false_iff]at g3';obtain⟨⟨⟨⟨f0,f1⟩,f2⟩,f3⟩,f4⟩:=g2';obtain⟨⟨⟨⟨-,d1⟩,d2⟩,d3⟩,d4⟩:=g3';have o1:=xZ d1;have o2:=xZ d2;have o3:=xZ d3;have o4:=xZ d4;unfold xX at h2;rw[Bool.and_eq_true,List.all_eq_true,List.all_eq_true]at h2;unfold Yc at g4;rw[Bool.and_eq_true,List.all_eq_true,List.all_eq_true]at g4;have fsz:∀{nm:List ByteArray},nm.all bZ=true->∀s,s∈nm->s.size<=maxLen:=fun h s hs=>G_ (List.all_eq_true.1 h s hs)
 refine⟨g1,hw.parts,hw.len,hw.NT,fun x hx=>fsz f1 _ (List.mem_map_of_mem hx),fun x hx=>fsz f2 _ (List.mem_map_of_mem hx),fun x hx=>fsz f3 _ (List.mem_map_of_mem hx),fun x hx=>fsz f4 _ (List.mem_map_of_mem hx),
  by have:=f1;rwa [List.all_map]at this,by have:=f2;rwa [List.all_map]at this,by have:=f3;rwa [List.all_map]at this,by have:=f4;rwa [List.all_map]at this,
  by have:=o1;rwa [List.length_map]at this,by have:=o2;rwa [List.length_map,List.length_append]at this,by have:=o3;rwa [List.length_map]at this,by have:=o4;rwa [List.length_map]at this,f0,fun t htm k hk=>?_,fun y hy=>?_⟩
 ·have e2:iW (dP r) (dQ r) (jF r) k=k:=of_decide_eq_true (List.all_eq_true.1 (h2.1 t htm) k hk);have e3:=List.all_eq_true.1 (g4.1 t htm) k hk;obtain⟨p1,p2,p5⟩:=Oa o1 o4 o3 e3 e2;have ac1:=(hf.ties t htm).2 k hk;refine⟨?_,fun e=>(p1 e).2,fun e=>(p2 e).2,fun e=>(p5 e).2⟩;rcases ac1 with e|e|e|e;·exact uG f1 (p1 e).1
  ·exact uG f4 (p2 e).1
  ·exact uG f3 (p5 e).1
  exact Dp e.2.2
 have e0:=h2.2 y hy;unfold KE at e0;rw[Bool.and_eq_true,decide_eq_true_eq,GZ]at e0;obtain⟨e2,e1⟩:=e0;replace e2:(if(qX y).toList= []then-1 else dO (jF r) (qX y))=XE y:=e2;have e3:=g4.2 y hy;unfold Va at e3;rw[Bool.and_eq_true,Bool.or_eq_true,decide_eq_true_eq,decide_eq_true_eq]at e3;obtain⟨q1,q2⟩:=aaN o1 o4 (au y) e3.1 e1;obtain⟨-,-,-,-,k0,k1⟩:=hf.rounds y hy;refine⟨Yh f1 f4 (au y) e3.1 (fun z hz h2 h5=>?_),q1,q2,?_,?_⟩
 ·cases hp:y.2.2.2.2.1 with
  |false=>exact Yg (k1 hp z hz) h2 h5
  |true=>obtain⟨-,hnm,-,-,hl⟩:=k0 hp;rw[lW,hl,Ah,List.mem_singleton]at hz;rw[hz];exact hnm
 ·by_cases e:(qX y).toList= [];·exact Dp e
  exact uG f3 (e3.2.resolve_left e)
 by_cases e:(qX y).toList= [];·rw[if_pos e]at e2;exact .inl ⟨e,e2.symm⟩
 rw[if_neg e]at e2;exact .inr ⟨e,e2▸qB o3 (e3.2.resolve_left e)⟩
section
open Go.RowKit Go.Shelf
attribute [local go_sem] Oper.semAt_some
theorem RG(s:ByteArray)(a b:Int)(w:World):(binOp .neq 61 (.agg #[.string s,.int .i64 a,.int .i64 b]) (.agg #[.string s,.int .i64 a,.int .i64 b])).run prog w=.ok (.bool false) w:=by go_simp
theorem RH(s:ByteArray)(a b c d e:Int)(v:Bool)(w:World):(binOp .neq 53 (.agg #[.string s,.int .i64 a,.int .i64 b,.int .i64 c,.int .i64 d,.int .i64 e,.bool v]) (.agg #[.string s,.int .i64 a,.int .i64 b,.int .i64 c,.int .i64 d,.int .i64 e,.bool v])).run prog w=.ok (.bool false) w:=by go_simp
theorem Dq{l:List Int}(hs:Sl Int w M A n c l):
 CB 106 #[.slice A n c,.slice A n c] (.bool true) w:=by
 refine wid ?_;have hn:=hs.len;have hsm:=hs.small;have H:=Hd hs
 skip
 clear hs;refine ent func106 rfl ntmps106 ?_;gi_wp2;gi_loopw[5] (fun i wr=>∃k:Nat,k<=n/\i=.int .i64 k/\Below w.heap.size w wr) (fun i _=>n-(intOf i).toNat);case atStart=>exact⟨0,Nat.zero_le _,rfl,Below.refl _ _⟩
 case round=>
  obtain⟨k,hk,rfl,hb⟩:=hrel;by_cases hlt:k<n;·obtain⟨b,o,y,rfl,c0,-,-,-⟩:=(H.out.go hb).pR hlt;have v0:=ah c0;exact aeQ
  ·exact agD
theorem zT{l:List bW}(hs:Sl bW w M A n c l):
 CB 103 #[.slice A n c,.slice A n c] (.bool true) w:=by
 refine wid ?_;have hn:=hs.len;have hsm:=hs.small;have H:=Hd hs;have sf:=RG;clear hs;refine ent func103 rfl ntmps103 ?_;gi_wp2;gi_loopw[5] (fun i wr=>∃k:Nat,k<=n/\i=.int .i64 k/\Below w.heap.size w wr) (fun i _=>n-(intOf i).toNat);case atStart=>exact⟨0,Nat.zero_le _,rfl,Below.refl _ _⟩
 case round=>
  obtain⟨k,hk,rfl,hb⟩:=hrel;by_cases hlt:k<n;·obtain⟨y,hy⟩:=dW l k (by rw[hn];exact hlt);obtain⟨b,o,es,rfl,hes,hrw⟩:=(H.out.go hb).get hy;obtain⟨rfl,-⟩:=oU hes;have v0:=ah (show wr.cell? ⟨b,o+k*3,none⟩=some (.string y.1)from hrw.2 0 _ rfl);have v1:=ah (show wr.cell? ⟨b,o+k*3+1,none⟩=some (.int .i64 y.2.1)from hrw.2 1 _ rfl);have v2:=ah (show wr.cell? ⟨b,o+k*3+2,none⟩=some (.int .i64 y.2.2)from hrw.2 2 _ rfl);clear hes hrw hy;exact aeQ
  ·exact agD
def abT(x:aU):Prop:=∀{y:aU}{M M':List Nat}{A B:Option Addr}{m c m' c':Nat}{w:World},Sl aU w M A m c x.l->Sl aU w M' B m' c' y.l->Calls prog 145 #[.agg #[.int .i64 x.kind,.string x.name,.int .i64 x.n,.int .i64 x.d,.slice A m c],.agg #[.int .i64 y.kind,.string y.name,.int .i64 y.n,.int .i64 y.d,.slice B m' c']] w fun e w'=>e=.returned (.bool (fE x y))/\Below w.heap.size w w'
theorem He(x:aU):abT x:=by
 induction x using iY with
 |_ x ih=>
 intro y M M' A B m c m' c' w hs ht;obtain⟨k1,s1,n1,d1,l1⟩:=x;obtain⟨k2,s2,n2,d2,l2⟩:=y;simp only[aU.kind,aU.name,aU.n,aU.d,aU.l]at hs ht |-;refine wid ?_;obtain⟨W1,hW1,F1⟩:=dR (((Fr.nil w).a w.heap.size [.int .i64 k1,.string s1,.int .i64 n1,.int .i64 d1,.slice A m c] 48).a (w.heap.size+1) [.int .i64 k2,.string s2,.int .i64 n2,.int .i64 d2,.slice B m' c'] 48);have hl1:=hs.len;have hl2:=ht.len;have hsm:=hs.small;have HF:=Hd F1;refine op1 F1 ?_;intros;clear F1;by_cases e1:k1=k2;rotate_left;·have HR:=Hd (show fE (.mk k1 s1 n1 d1 l1) (.mk k2 s2 n2 d2 l2)=false by rw[fE];simp[e1]);exact aeP
 subst e1;by_cases e2:s1=s2;rotate_left;·have HR:=Hd (show fE (.mk k1 s1 n1 d1 l1) (.mk k1 s2 n2 d2 l2)=false by rw[fE];simp[e2]);have ne:=str_eq e2;clear hs ht;refine ent func145 rfl ntmps145 ?_;gi_wp2;go_ret;exact⟨by rw[HR.out];first|rfl|simp,HF.out.bl⟩
 subst e2;by_cases e3:n1=n2;rotate_left;·have HR:=Hd (show fE (.mk k1 s1 n1 d1 l1) (.mk k1 s1 n2 d2 l2)=false by rw[fE];simp[e3]);exact aeP
 subst e3;by_cases e4:d1=d2;rotate_left;·have HR:=Hd (show fE (.mk k1 s1 n1 d1 l1) (.mk k1 s1 n1 d2 l2)=false by rw[fE];simp[e4]);exact aeP
 subst e4;by_cases e5:m=m';rotate_left;·have HR:=Hd (show fE (.mk k1 s1 n1 d1 l1) (.mk k1 s1 n1 d1 l2)=false by rw[fE];simp[yX (show l1.length≠l2.length by omega)]);exact aeP
 subst e5;have HS:=Hd (show fE (.mk k1 s1 n1 d1 l1) (.mk k1 s1 n1 d1 l2)=fQ l1 l2 by rw[fE];simp);have IH:Hid (∀z,z∈l1->abT z):=ih;have H:=Hd2 hs ht;have HL:=Hd2 hl1 hl2;have Un:=Hd (show fQ (l1.drop 0) (l2.drop 0)=fQ l1 l2 by simp);clear hs ht hl1 hl2 ih;refine ent func145 rfl ntmps145 ?_;gi_wp2;gi_loopw[5] (fun i wr=>∃k:Nat,k<=m/\i=.int .i64 k/\Hid (fQ (l1.drop k) (l2.drop k)=fQ l1 l2)/\Hid (Fr w wr [(w.heap.size, [.int .i64 k1,.string s1,.int .i64 n1,.int .i64 d1,.slice A m c]),(w.heap.size+1, [.int .i64 k1,.string s1,.int .i64 n1,.int .i64 d1,.slice B m c'])])) (fun i _=>m-(intOf i).toNat);case atStart=>exact⟨0,Nat.zero_le _,rfl,Un,HF⟩
 case round=>
  obtain⟨k,hk,rfl,hS,hF⟩:=hrel;have o1:=aW hF.out;by_cases hlt:k<m
  ·obtain⟨x,hxk⟩:=dW l1 k (by rw[HL.out.1];exact hlt);obtain⟨y,hyk⟩:=dW l2 k (by rw[HL.out.2];exact hlt);have hstep:=Dc hxk hyk;obtain⟨b1,o1',B1,m1,c1,rfl,⟨p0,p1,p2,p3,p4⟩,-,hs1⟩:=(H.out.1.go hF.out.bl).qQ hxk;obtain⟨b2,o2',B2,m2,c2,rfl,⟨q0,q1,q2,q3,q4⟩,-,hs2⟩:=(H.out.2.go hF.out.bl).qQ hyk;have a0:=ah p0;have a1:=ah p1;have a2:=ah p2;have a3:=ah p3;have a4:=ah p4;have b0:=ah q0;have b1':=ah q1;have b2':=ah q2;have b3:=ah q3;have b4:=ah q4;have v1:=ah (hF.out.aQ 0 4);have v2:=ah (hF.out.aQ 1 4);obtain⟨q,hq⟩:=aC (fE x y);have HC:=Hd (IH.out x (List.mem_of_getElem? hxk) (y:=y) (hs1.go (Below.refl _ _).drew) (hs2.go (Below.refl _ _).drew));rw[hq]at HC;have HQ:=Hd2 hq hstep;clear hxk hyk hstep hs1 hs2 hq;cases q
   all_goals
    gi_wp2;refine ak [] [0,1,2,3,4,5,6,7,8,9,10,11] (by kernel_rfl) (by kernel_rfl) ?_;refine eH ?_;refine aH fun K hK=>aA rfl rfl wy fun K' hK'=>?_;gi_wp2;refine Cl 145 HC.out ?_;rintro e w2 ⟨rfl,hb2⟩;have F2:=Hd (hF.out.drew.go hb2)
    refine hK' _ _ ⟨?_,hK _ _ ?_⟩;clear hK' K' hK K;·exact Keeps.of_below hb2 _
    clear hb2;refine lit ?_;refine eH ?_;refine aK ?_;refine lit ?_;gi_wp2
   ·go_ret;exact⟨by rw[HS.out,<-hS.out,HQ.out.2,HQ.out.1];rfl,F2.out.bl⟩
   exact⟨⟨k+1,by omega,by go_num,Hd (by rw[<-hS.out,HQ.out.2,HQ.out.1,Bool.true_and]),F2⟩,by simp[intOf];omega⟩
  ·obtain rfl:k=m:=by omega
   have HE:=Hd (show fQ l1 l2=true by exact afK);clear hk hlt;gi_wp2;go_ret;exact⟨by rw[HS.out,HE.out];rfl,hF.out.bl⟩
theorem Ot{n t:ByteArray}{q c VD no2:Int}{a b:Bool}{e1 e2:aU}{m c1 m' c2:Nat}(h1:Sl aU w M A m c1 e1.l)(h2:Sl aU w M' B m' c2 e2.l):
 Calls prog 105 #[.agg #[.string n,.int .i64 p,.int .i64 q,.int .i64 c,.bool a,.bool b,.int .i64 e1.kind,.string e1.name,.int .i64 e1.n,.int .i64 e1.d,.slice A m c1,.string t,.int .i64 VD],.agg #[.string n,.int .i64 p,.int .i64 q,.int .i64 c,.bool a,.bool b,.int .i64 e2.kind,.string e2.name,.int .i64 e2.n,.int .i64 e2.d,.slice B m' c2,.string t,.int .i64 no2]] w fun e w'=>e=.returned (.bool (decide (VD=no2)&&fE e1 e2))/\Below w.heap.size w w':=by
 refine wid ?_;obtain⟨z0,hz0⟩:=aC (decide (VD=no2)&&fE e1 e2);rw[hz0];have HZ:=Hd hz0;clear hz0;obtain⟨W1,hW1,F1⟩:=dR (((Fr.nil w).a w.heap.size [.string n,.int .i64 p,.int .i64 q,.int .i64 c,.bool a,.bool b,.int .i64 e1.kind,.string e1.name,.int .i64 e1.n,.int .i64 e1.d,.slice A m c1,.string t,.int .i64 VD] 50).a (w.heap.size+1) [.string n,.int .i64 p,.int .i64 q,.int .i64 c,.bool a,.bool b,.int .i64 e2.kind,.string e2.name,.int .i64 e2.n,.int .i64 e2.d,.slice B m' c2,.string t,.int .i64 no2] 50);have o1:=aW F1;have HF:=Hd F1;have HC:=Hd (He e1 (y:=e2) (h1.go F1.bl) (h2.go F1.bl));clear F1;by_cases hno:VD=no2
 ·subst hno;obtain⟨z,hz⟩:=aC (fE e1 e2);rw[hz]at HC;have HR:=Hd (show z0=z by rw[<-HZ.out,hz];simp);clear h1 h2 hz;refine ent func105 rfl ntmps105 ?_
  gi_wp2_with (first
   |(refine Cl 145 HC.out ?_;rintro e w2 ⟨rfl,hb2⟩;have HB:=Hd (HF.out.bl.trans (hb2.mono HF.out.bl.size));clear hb2)
   |fail)
  go_ret;exact⟨by rw[HR.out];rfl,HB.out⟩
 ·have HR:=Hd (show z0=false by rw[<-HZ.out,decide_eq_false hno];rfl);clear h1 h2;refine ent func105 rfl ntmps105 ?_;gi_wp2_with (first|(refine⟨trivial,?_⟩))
  go_ret;exact⟨by rw[HR.out];first|rfl|simp,HF.out.bl⟩
theorem Hl{d:Nat}(h1:Sl dA w M A n c (r.ties.map (yV r)))(h2:Sl dA w M' B n d r.ties):
 CB 104 #[.slice A n c,.slice B n d] (.bool (r.ties.all fun t=>t.2.all (xU r))) w:=by
 refine wid ?_;have hn:=h2.len;have hsm:=h2.small;have H:=fB h1 h2 hn;have kq:=Qd;clear h1 h2 hn;refine ent func104 rfl ntmps104 ?_;gi_wp2;gi_loopw[5] (fun i wr=>∃k:Nat,k<=n/\i=.int .i64 k/\Hid (((r.ties.drop k).all fun t=>t.2.all (xU r))=r.ties.all fun t=>t.2.all (xU r))/\Hid (Below w.heap.size w wr)) (fun i _=>n-(intOf i).toNat);case atStart=>exact⟨0,Nat.zero_le _,rfl,Hd rfl,Hd (Below.refl _ _)⟩
 case round=>
  obtain⟨k,hk,rfl,hS,hB⟩:=hrel;obtain⟨V,rfl⟩:∃V,V=wr:=⟨_,rfl⟩;by_cases hlt:k<n
  ·obtain⟨t,htk⟩:=dW r.ties k (by rw[H.out.2.2];exact hlt);have abZ:(r.ties.map (yV r))[k]?=some (yV r t):=by rw[List.getElem?_map,htk];rfl
   have hstep:=iC (P:=fun t:dA=>t.2.all (xU r)) htk;obtain⟨b1,o1,B1,m1,c1,rfl,⟨p0,p1⟩,hk1⟩:=(H.out.1.go hB.out).n_ abZ;obtain⟨b2,o2,B2,m2,c2,rfl,⟨q0,q1⟩,hk2⟩:=(H.out.2.1.go hB.out).n_ htk;have e0:(yV r t).1=t.1:=rfl;have e1:(yV r t).2=t.2.map (iW (dP r) (dQ r) (jF r)):=rfl;rw[e0]at p0;rw[e1]at hk1;have l1:=hk1.len;have l2:=hk2.len;rw[List.length_map,l2]at l1;subst l1;obtain⟨nm,hnm⟩:=aC t.1;obtain⟨ks,hks⟩:=aC t.2;rw[hnm]at p0 q0;rw[hks]at hk1 hk2 l2 hstep;have a0:=ah p0;have a1:=ah p1;have b0:=ah q0;have b1':=ah q1;have hsk:=hk2.small;have HK:=h_ hk1 hk2 l2 hstep;have HP:=Hd2 p1 q1;clear htk abZ hstep hk1 hk2 e0 e1 hnm hks l2 p0 p1 q0 q1;gi_wp2;refine ak [] [0,1,2,3,4,5,6,7,8,9,10,11,12,13,14,15,16,17,18,19,20,21,22,23,24,25] (by kernel_rfl) (by kernel_rfl) ?_;refine eH ?_;refine aK ?_;refine lit ?_;gi_wp2;gi_loopw[6] (fun i wr=>∃j:Nat,j<=m2/\i=.int .i64 j/\Hid ((ks.drop j).all (xU r)=ks.all (xU r))/\Hid (Below V.heap.size V wr)) (fun i _=>m2-(intOf i).toNat);case atStart=>exact⟨0,Nat.zero_le _,rfl,Hd rfl,Hd (Below.refl _ _).drew⟩
   case round=>
    obtain⟨j,hj,rfl,hT,hC⟩:=hrel;have p1:=(Keeps.of_below hC.out []).cell (by simp) HP.out.1;have q1:=(Keeps.of_below hC.out []).cell (by simp) HP.out.2;by_cases hlj:j<m2
    ·obtain⟨y,hy⟩:=dW ks j (by rw[HK.out.2.2.1];exact hlj);have hy2:(ks.map (iW (dP r) (dQ r) (jF r)))[j]?=some (iW (dP r) (dQ r) (jF r) y):=by rw[List.getElem?_map,hy];rfl
     have hst2:=iC (P:=xU r) hy;obtain⟨b3,o3,rfl,x0,x1,x2⟩:=(HK.out.1.go hC.out).xQ hy2;obtain⟨b4,o4,rfl,y0,y1,y2⟩:=(HK.out.2.1.go hC.out).xQ hy;obtain⟨z,hz⟩:=aC (iW (dP r) (dQ r) (jF r) y);rw[hz]at x0 x1 x2;have g1:=ah p1;have g2:=ah q1;have f0:=ah x0;have f1:=ah x1;have f2:=ah x2;have f3:=ah y0;have f4:=ah y1;have f5:=ah y2;obtain⟨e,he⟩:=aC (decide (z=y));have kz:=fun w=>kq z y w;rw[he]at kz;have HT2:=Hd2 hst2 (show xU r y=e by rw[xU,hz];exact he);have hbd:=Hd (hC.out.drew);clear hy hy2 hst2 hz x0 x1 x2 y0 y1 y2 he kq;cases e
     all_goals
      gi_wp2;refine aP [] 17 (by kernel_rfl) (by kernel_rfl) ?_;refine ay 0 ?_;refine ay 1 ?_;refine ay 2 ?_;refine ay 3 ?_;refine ay 4 ?_;refine ay 5 ?_;refine ay 6 ?_;refine ay 7 ?_;refine ay 8 ?_;refine ay 9 ?_;refine ay 10 ?_;refine ay 11 ?_;refine ay 12 ?_;refine ay 13 ?_;refine ay 14 ?_;refine ay 15 ?_;refine ay 16 ?_;refine iq 0 ?_;refine tail_nil _ ?_;simp only[cu];gi_wp2
     ·go_ret;exact⟨by rw[<-hS.out,HK.out.2.2.2,<-hT.out,HT2.out.1,HT2.out.2];simp,hB.out.trans (hbd.out.mono hB.out.size)⟩
     exact⟨⟨j+1,by omega,by go_num,Hd (by rw[<-hT.out,HT2.out.1,HT2.out.2,Bool.true_and]),hbd⟩,by simp[intOf];omega⟩
    ·obtain rfl:j=m2:=by omega
     have HE:=Hd (show((r.ties.drop (k+1)).all fun t=>t.2.all (xU r))=r.ties.all fun t=>t.2.all (xU r) by have h:=hT.out;rw[jr (by rw[HK.out.2.2.1];exact Nat.le_refl _)]at h;have h2:=HK.out.2.2.2;rw[hS.out,<-h,Bool.true_and]at h2;exact h2.symm);clear hj hlj;gi_wp2;exact⟨⟨k+1,by omega,by go_num,HE,Hd (hB.out.trans (hC.out.mono hB.out.size))⟩,by simp[intOf];omega⟩
  ·obtain rfl:k=n:=by omega
   have HE:=Hd (show(r.ties.all fun t=>t.2.all (xU r))=true by rw[<-hS.out,jr (by rw[H.out.2.2];exact Nat.le_refl _)]);clear hk hlt;gi_wp2;go_ret;exact⟨by rw[HE.out];rfl,hB.out⟩
end
end Go.Proofs.YtlcgbfkdnmdigaaGreatDoor
