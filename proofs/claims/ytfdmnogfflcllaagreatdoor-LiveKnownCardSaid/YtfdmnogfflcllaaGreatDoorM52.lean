/- Lemmas. -/
import Derived.Test.YtfdmnogfflcllaaGreatDoorM51
import Derived.Test.YtfdmnogfflcllaaGreatDoorM48
set_option linter.unusedVariables false
set_option linter.unusedSimpArgs false
set_option maxRecDepth 100000
set_option maxHeartbeats 20000000
namespace Go.Proofs.YtfdmnogfflcllaaGreatDoor
open Go.Proofs.Tryz
theorem ES{p:Prop}(h:p:=by
 gi_wp2_with (first|(refine⟨bq,?_⟩)|fail)
 go_ret;exact⟨rfl,J.out.at_.fr.bl⟩):p:=h
theorem Iw{p:Prop}(h:p:=by
 gi_wp2_with (first|(refine⟨bq,?_⟩))
 exact⟨⟨j+1,true,oE,by go_num,rfl,Hd (.inl rfl),f⟩,by simp[intOf];omega⟩):p:=h
variable {e:Ending}{w':World}{N d:Nat}{P Q:Prop}{B:Option Addr}{a:Int}
section
open Go.RowKit Go.Shelf
attribute [local go_sem] cK
instance:kJ aM:=⟨by
 intro w M x cs h u hu;obtain⟨t1,t2,t3,t4,rfl,hc2⟩:=aaK h;simp at hu;rcases hu with rfl|rfl|rfl|rfl<;>rfl⟩
theorem aeG:(prog.info? 42).map (fun i=>(i.zero,i.size,i.bytes))=some (some (.agg #[.slice none 0 0,.slice none 0 0,.slice none 0 0,.slice none 0 0]),4,96):=oF
theorem adV:iU 42 (Rep.sz aM):=iU.mk' aeG rfl oE
structure KnB(w V:World)(r:aS)(s1 s2 s3 s4 s5 s6 s7:dK)(A:Option Addr)(n cp:Nat)(os:List aM):Prop where
 t:Tab V
 rl:dG V [] r s1 s2 s3 s4 s5 s6 s7
 cs:Sl aM V [] A n cp os
 fr:Fr w V [(w,aV r s1 s2 s3 s4 s5 s6 s7)]
section
variable {w V V':World}{r:aS}{s1 s2 s3 s4 s5 s6 s7:dK}{A:Option Addr}{n cp:Nat}{os:List aM}
theorem KnB.go(h:KnB w V r s1 s2 s3 s4 s5 s6 s7 A n cp os)(hb:Below V V V'):KnB w V' r s1 s2 s3 s4 s5 s6 s7 A n cp os:=⟨tab_below h.t hb,h.rl.go hb,h.cs.go hb,h.fr.go hb⟩
theorem KnB.st(h:KnB w V r s1 s2 s3 s4 s5 s6 s7 A n cp os):St V (fun U=>KnB w U r s1 s2 s3 s4 s5 s6 s7 A n cp os):=by unfold St;exact fun U b=>h.go b
structure KnR(r:aS)(k:Nat)(x:aJ)(os:List aM):Prop where
 snd:Sound r
 hx:r.rounds[k]?=some x
 hc:∀y,y∈os->f_ r k (toC y)/\yI r (toC y)/\vF r k (toC y)=0
 hp:x.2.2.2.2.1=false
 hf:x.2.2.2.2.2.1=false
 hl:aa6 r.aT.length (aaL r.aT.length k (au x))=true
 cl:r.aT.length<=1000
 kl:k<=1000
theorem ahg{i en:Int}(h:FwL r os)(g:afo r i os en)(hn:os≠ []):∃(k:Nat) (x:aJ) (e:Nat),i=(k:Int)/\en=(e:Int)/\e<os.length/\KnR r k x os:=by
 obtain⟨j,k,x,e,rfl,hx,o,⟨p,s,t⟩,rfl,he⟩:=g;obtain⟨y,b⟩:=List.exists_mem_of_ne_nil os hn;have f:=h.2 y b;have hs:=afz f.fw.1 j;refine⟨k,x,e,rfl,rfl,he,hs.1,hx,fun y b=>?_,p,s,t,f.fw.1.fw.len.1,?_⟩;·have O:f_ r k (toC y):=⟨hs.1,k,x,rfl,hx,o y b⟩;exact⟨O,h.2 y b,Pv O⟩
 have:=(bj.1 hx).1;have:=f.fw.2;omega
end
def ScU(w':World)(N:Nat)(l:List Rt)(A:Option Addr)(n c:Nat)(k:Int):Prop:=(k=0/\N<=5040/\SlR w' [] A n c l)\/(k=2/\5040<N)
theorem afq{l:List Rt}(h:(N<=5040/\∃A n c,e=.returned (.tuple #[.slice A n c,.int .i64 0])/\SlR w' [] A n c l)\/(5040<N/\e=.returned (.tuple #[.slice none 0 0,.int .i64 2]))):∃A n c k,e=.returned (.tuple #[.slice A n c,.int .i64 k])/\ScU w' N l A n c k:=by
 rcases h with⟨b,A,n,c,rfl,hs⟩|⟨b,rfl⟩;·exact⟨A,n,c,0,rfl,.inl ⟨rfl,b,hs⟩⟩
 exact⟨none,0,0,2,rfl,.inr ⟨rfl,b⟩⟩
theorem ScU.go{w w':World}{N:Nat}{l:List Rt}{A:Option Addr}{n c:Nat}{k:Int}(h:ScU w N l A n c k)(hb:Below w w w'):ScU w' N l A n c k:=h.imp (fun h=>⟨h.1,h.2.1,h.2.2.go hb⟩) id
attribute [irreducible] ScU
theorem ScU.of{w:World}{l:List Rt}{A:Option Addr}{n c:Nat}{k:Int}(h:ScU w N l A n c k):(k=0/\N<=5040/\SlR w [] A n c l)\/(k=2/\5040<N):=by unfold ScU at h;exact h
def RkU(w':World)(P Q:Prop)(l:List Nat)(B:Option Addr)(m d:Nat)(k:Int):Prop:=(k=0/\P/\Sl Int w' [] B m d (l.map Int.ofNat))\/(k=2/\Q)
theorem afr{l:List Nat}(h:(P/\∃B m d,e=.returned (.tuple #[.slice B m d,.int .i64 0])/\Sl Int w' [] B m d (l.map Int.ofNat))\/(Q/\e=.returned (.tuple #[.slice none 0 0,.int .i64 2]))):∃B m d k,e=.returned (.tuple #[.slice B m d,.int .i64 k])/\RkU w' P Q l B m d k:=by
 rcases h with⟨b,B,m,d,rfl,hs⟩|⟨b,rfl⟩;·exact⟨B,m,d,0,rfl,.inl ⟨rfl,b,hs⟩⟩
 exact⟨none,0,0,2,rfl,.inr ⟨rfl,b⟩⟩
theorem RkU.go{w w':World}{P Q:Prop}{l:List Nat}{B:Option Addr}{m d:Nat}{k:Int}(h:RkU w P Q l B m d k)(hb:Below w w w'):RkU w' P Q l B m d k:=h.imp (fun h=>⟨h.1,h.2.1,h.2.2.go hb⟩) id
attribute [irreducible] RkU
theorem RkU.of{w:World}{l:List Nat}{m:Nat}{k:Int}(h:RkU w P Q l B m d k):(k=0/\P/\Sl Int w [] B m d (l.map Int.ofNat))\/(k=2/\Q):=by unfold RkU at h;exact h
end
def aa8(c:aM)(q:Nat×Nat)(m:Int):aM:=(aw c.1 q m,c.2)
section
variable {r:aS}{k:Nat}{c:aM}{q:Nat×Nat}{m:Int}{x:aJ}{l:List aM}{i:Nat}
theorem aa9(hg:f_ r k (toC c))(hm:m∈ao (r.aT.getD q.1 aao)):f_ r k (toC (aa8 c q m)):=by
 obtain⟨x,hx,I⟩:=Zi hg;refine⟨hg.1,k,x,rfl,hx,?_⟩;unfold kS at I |-;simp only[cJ,du]at I |-;obtain⟨⟨⟨⟨⟨o,p⟩,h3⟩,h4⟩,h5⟩,h6⟩:=I;refine⟨⟨⟨⟨⟨aaE.trans o,p⟩,h3⟩,h4⟩,?_⟩,h6⟩;rw[cQ]at h5 |-;intro z u;obtain⟨i,s⟩:=fS u;rw[List.getElem?_zip_eq_some]at s;obtain⟨E,j⟩:=s;have b:(aw c.1 q m)[i]?=some z.2:=j;unfold aw at b;rw[mL]at b;by_cases e:q.1=i
 ·rw[if_pos e]at b;by_cases f:q.1<c.1.length
  ·rw[if_pos f]at b;have v:=eW b;have s:c.1[i]?=some (c.1.getD q.1 []):=by rw[<-e,cx,bX f];rfl
   have h:=h5 (z.1,c.1.getD q.1 []) (aR (oG E s));unfold jc at h |-;rw[cJ,eZ,cQ]at h |-;rw[<-v];refine⟨by rw[fI];exact h.1,fun y g=>?_⟩;rcases gN g with g|rfl;·exact h.2 y g
   have t:r.aT.getD q.1 aao=z.1:=by rw[e,cx,E];rfl
   rw[t]at hm;unfold oD;rw[(abE (hg.1.2.1.aT z.1 (aR E))).1 hm,Bool.or_true]
  rw[if_neg f]at b;cases b
 rw[if_neg e]at b;exact h5 z (aR (oG E b))
theorem acs(hw:yI r (toC c)):yI r (toC (aa8 c q m)):=by
 refine⟨hw.fw,hw.parts,⟨cD (Nat.le_of_eq aaE) hw.lens.1,hw.lens.2⟩,fun l b=>?_,hw.prev⟩;have b:l∈aw c.1 q m:=b;unfold aw at b;rcases gN b with b|rfl;·exact hw.mark l b
 rw[fI,cx]
 cases e:c.1[q.1]? with
 |none=>exact bO _
 |some y=>exact hw.mark y (aR e)
theorem aeH(hm:m≠ -1):aa 0 (aw c.1 q m)=(aa 0 c.1).filter fun r=>decide (r≠q):=by have e:=abp (s:=c.1) (i:=0) (a:=q.1) (b:=q.2) hm;rw[dm]at e;exact e
theorem adw(hm:m≠ -1):aah r (toC (aa8 c q m))<=aah r (toC c):=by unfold aah;show manyN r.aT (aa 0 (aw c.1 q m))<=manyN r.aT (aa 0 c.1);rw[aeH hm];exact aa5 _ _ _
theorem ad8(hg:f_ r k (toC c))(hw:yI r (toC c))(hx:r.rounds[k]?=some x)(hp:x.2.2.2.2.1=false)(hq:q∈aa 0 c.1)(hm:m∈ao (r.aT.getD q.1 aao))(hm1:m≠ -1):∀y,y∈af r x (toC (aa8 c q m))->y∈af r x (toC c):=fun _ hy=>adH hg hw hx hp hq hm hm1 (aa9 hg hm) (acs hw) hy
theorem afs(hl:∀y,y∈l->f_ r k (toC y)/\yI r (toC y))(hi:l[i]?=some c)(hx:r.rounds[k]?=some x)(hp:x.2.2.2.2.1=false)(hq:q∈aa 0 c.1)(hm:m∈ao (r.aT.getD q.1 aao))(hm1:m≠ -1):
 ab5 (l.map fun y=>af r x (toC y)) ((l.set i (aa8 c q m)).map fun y=>af r x (toC y)):=by
 have I:=hl c (aR hi);have u:=(bj.1 hi).1;have o:∀j,j<l.length->∃y,l[j]?=some y/\(l.map fun y=>af r x (toC y)).getD j []=af r x (toC y):=fun j b=>⟨l[j],bX b,by rw[cx,cP,bX b];rfl⟩;have p:((l.set i (aa8 c q m)).map fun y=>af r x (toC y)).getD i []=af r x (toC (aa8 c q m)):=by rw[cx,cP,fm u];rfl
 have s:∀j,i≠j->((l.set i (aa8 c q m)).map fun y=>af r x (toC y)).getD j []=(l.map fun y=>af r x (toC y)).getD j []:=fun j b=>by rw[cx,cx,cP,cP,fz b]
 have v:∀j,j<l.length->aaF ((l.map fun y=>af r x (toC y)).getD j []):=fun j b=>by obtain⟨y,f,g⟩:=o j b;rw[g];have t:=hl y (aR f);exact aaH t.1 t.2 hx hp
 refine⟨oO,fun j b=>v j (by simpa using b),fun j b=>?_,fun j b y h=>?_⟩
 ·by_cases e:i=j;·subst e;rw[p];exact aaH (aa9 I.1 hm) (acs I.2) hx hp
  rw[s j e];exact v j (by simpa using b)
 ·by_cases e:i=j;·subst e;rw[p]at h;obtain⟨z,f,g⟩:=o i u;rw[hi]at f;cases f;rw[g];exact ad8 I.1 I.2 hx hp hq hm hm1 y h
  rwa [s j e]at h
end
section
open Go.RowKit Go.Shelf
attribute [local go_sem] cK
theorem aeI{M N:List Nat}{A:Option Addr}{n c m:Nat}{xs ys:List Int}{w:World}(hx:Sl Int w M A n c xs)(hy:Sl Int w N B m d ys)(h:∀x,x∈xs->x∈ys):
 CB 18 #[.slice A n c,.slice B m d] (.bool true) w:=by
 refine wid ?_;have T:xs.length=n:=hx.len;have R:ys.length=m:=hy.len;have W:=hx.small;have U:=hy.small;have H:=fB hx hy h;clear hx hy h;refine ent func18 rfl ntmps18 ?_;gi_wp2;gi_loopw[12] (fun i wr=>∃k:Nat,k<=n/\i=.int .i64 k/\Hid (Below w w wr)) (fun i _=>n-(intOf i).toNat);case atStart=>exact⟨0,bO _,rfl,Hd pd⟩
 case round=>
  obtain⟨k,O,rfl,hb⟩:=hrel;by_cases G:k<n
  ·obtain⟨b,o,x,rfl,J,-,-,s⟩:=(H.a.go hb.out).pR G;have HX:=Hd (H.v x (aR s));clear s;gi_wp2;gi_loopw[7,18] (fun a i I=>∃(j:Nat) (t:Bool),j<=m/\i=.int .i64 j/\a=.bool t/\Hid (t=true\/x∈ys.drop j)/\Hid (Below w w I)) (fun _ i _=>m-(intOf i).toNat);case atStart=>exact⟨0,false,bO _,rfl,rfl,Hd (.inr (by rw[fh];exact HX.out)),hb⟩
   case round=>
    obtain⟨j,t,L,rfl,rfl,S,f⟩:=hrel;by_cases E:j<m
    ·obtain⟨b2,X,y,rfl,K,-,-,u⟩:=(H.b.go f.out).pR E;obtain⟨D,p⟩:=bj.1 u;have z:=Hd (show t=true\/x=y\/x∈ys.drop (j+1) by
      have h:=S.out
      rwa [cT D,p,cB]at h)
     clear S u p;cases t
     ·by_cases g:x=y;·subst g;have C:(x==x)=true:=beq_self_eq_true x;exact Iw
      have C:(x==y)=false:=cU.2 g;have F:=Hd g;clear g;gi_wp2_with (first|(refine⟨bq,?_⟩))
      exact⟨⟨j+1,false,oE,by go_num,rfl,Hd (by rcases z.out with h|h|h;exact .inl h;exact absurd h F.out;exact .inr h),f⟩,by simp[intOf];omega⟩
     exact Iw
    ·obtain rfl:t=true:=by
       have h:=S.out;rw[cA oE]at h;exact h.elim id (fun h=>by cases h)
     clear S;gi_wp2;exact⟨⟨k+1,oE,by go_num,f⟩,by simp[intOf];omega⟩
  ·gi_wp2;go_ret;exact⟨rfl,hb.out⟩
theorem ad9(h0:0<=a){n:Nat}(hn:0<n):∃k:Nat,k<n/\a.tmod (n:Int)=(k:Int):=by have b:0<=a.tmod (n:Int):=Int.tmod_nonneg _ h0;have f:a.tmod (n:Int)<(n:Int):=Int.tmod_lt_of_pos _ oE;exact⟨(a.tmod (n:Int)).toNat,oE,oE⟩
theorem afL{z:bT}(h:rC z){d:Int}(hd:0<=d):∃D j:Nat,(z.2.2.1-z.2.1).tdiv z.2.2.2.1=(D:Int)/\D<=1000/\d.tmod ((D:Int)+1)=(j:Int)/\0<=z.2.2.2.1*(j:Int)/\z.2.1+z.2.2.2.1*(j:Int)<=1000/\z.2.1+z.2.2.2.1*(j:Int)∈ao z:=by obtain⟨t,u,v,y,-⟩:=h;have s:0<=(z.2.2.1-z.2.1)/z.2.2.2.1:=mH oE oE;have p:(z.2.2.1-z.2.1)/z.2.2.2.1<=z.2.2.1-z.2.1:=Int.ediv_le_self _ oE;have o:=Int.mul_ediv_self_le (x:=z.2.2.1-z.2.1) (k:=z.2.2.2.1) oE;obtain⟨D,b⟩:∃D:Nat,((z.2.2.1-z.2.1)/z.2.2.2.1)=(D:Int):=⟨_,(iB s).symm⟩;obtain⟨j,C,g⟩:=ad9 hd (show 0<D+1 by omega);have K:=jb (show(j:Int)<=(D:Int) by omega) (show 0<=z.2.2.2.1 by omega);have f:=mN (show 0<=z.2.2.2.1 by omega) (show 0<=(j:Int) by omega);rw[b]at o p;refine⟨D,j,by rw[eB oE];exact b,oE,by rw[<-g];rfl,f,oE,?_⟩;unfold ao;exact ev.2 ⟨j,fy.2 (by rw[b];omega),rfl⟩
section
variable {w:World}{r:aS}{s1 s2 s3 s4 s5 s6 s7:dK}{A:Option Addr}{n cp:Nat}{os:List aM}
theorem acv{i b c d:Int}(hr:dG w [] r s1 s2 s3 s4 s5 s6 s7)(hcs:Sl aM w [] A n cp os)(ht:Tab w)(ha:0<=a/\a<=255)(hb:0<=b/\b<=255)(hc:0<=c/\c<=255)(hd:0<=d/\d<=255):
 CB 4 #[.agg (aV r s1 s2 s3 s4 s5 s6 s7).toArray,.int .i64 i,.slice A n cp,.int .u8 a,.int .u8 b,.int .u8 c,.int .u8 d] (.bool true) w:=by
 have W:=h_ ha hb hc hd;clear ha hb hc hd;refine wid ?_;obtain⟨W1,cK,F1⟩:=dR ((Fr.nil w).a w (aV r s1 s2 s3 s4 s5 s6 s7) 28);have S:=aW F1;have J:=Hd (KnB.st ⟨tab_below ht F1.bl,hr.go F1.bl,hcs.go F1.bl,F1⟩);have an:os.length=n:=hcs.len;clear F1 hr hcs ht;refine ent func4 rfl ntmps4 ?_;gi_wp2;refine Cl 5 (adT J.out.at_.t) ?_;rintro e w2 ⟨rfl,hb⟩;replace J:=Hd (J.out.go hb);clear hb S;have S:=aW J.out.at_.fr;gi_wp2;refine Cl 6 (aeF J.out.at_.rl J.out.at_.cs (b_.nil _)) ?_;intro e w3 hw;obtain⟨b,rfl,hP,hb⟩:=hw.of;replace J:=Hd (J.out.go hb);clear hb hw S;have S:=aW J.out.at_.fr;cases b;·exact ES
 replace hP:=hP rfl;have h6:n<=6:=by rw[<-an];exact hP.1
 by_cases bC:n=0;·subst bC;exact ES
 have e0:((n:Int)==0)=false:=oS;gi_wp2;refine Cl 7 (afp (i:=i) (en:=0) J.out.at_.rl J.out.at_.cs (b_.nil _) h6) ?_;intro e T hw;obtain⟨kc,rfl,hE,hb⟩:=hw.of;replace J:=Hd (J.out.go hb);clear hb hw S;have S:=aW J.out.at_.fr;rcases MO kc with rfl|cN;rotate_left;·exact ES
 obtain⟨k,x,e',rfl,-,-,K⟩:=ahg hP (hE rfl) (fun e=>by rw[e]at an;exact bC an.symm);have f:=Hd K;clear hP hE K e';have cm:IntKind.i64.wrap a=a:=by rw[bR];have:=W.a;omega
 have cn:IntKind.i64.wrap b=b:=by rw[bR];have:=W.b;omega
 have co:IntKind.i64.wrap c=c:=by rw[bR];have:=W.c;omega
 have cq:IntKind.i64.wrap d=d:=by rw[bR];have:=W.w;omega
 obtain⟨p,hp,cg⟩:=ad9 W.out.1.1 (show 0<n by omega);have cf:¬(n:Int)=0:=oE;obtain⟨y,hy⟩:=dW os p oE;obtain⟨aU,bQ,bP⟩:=f.out.hc y (aR hy);obtain⟨bo,oo,t1,t2,t3,t4,hA,⟨v0,v1,v2,v3⟩,hcd⟩:=J.out.at_.cs.abJ hy;subst hA;obtain⟨A1,n1,c1⟩:=t1;have bA:y.1.length=r.aT.length:=acf aU;have bB:y.1.length=n1:=hcd.marks.len;have bD:0<n1:=by have:=e_.2 f.out.snd.2.1.c0;omega
 obtain⟨q,hq,cj⟩:=ad9 W.out.2.1.1 bD;have ci:¬(n1:Int)=0:=oE;obtain⟨l,hl⟩:=dW y.1 q oE;obtain⟨b9,cc⟩:=good_row aU (aR hl);obtain⟨b1,bb,A2,n2,c2,a2,m0,aH⟩:=hcd.marks.tX hl;have a2:A1=some ⟨b1,bb,none⟩:=a2;subst a2;have aZ:l.length=n2:=aH.len;obtain⟨g,hg,b8⟩:=ad9 W.out.2.2.1.1 (show 0<n2 by omega);have b7:¬(n2:Int)=0:=oE;obtain⟨b2,cQ,mk,b4,m1,-,-,bz⟩:=aH.pR hg;subst b4;obtain⟨z,I⟩:=dW r.aT q oE;have ba:=f.out.snd.2.1.aT z (aR I);obtain⟨b3,bS,a3,z0,z1,z2,z3,z4,z5,z6⟩:=J.out.at_.rl.aT.IU I;obtain⟨A3,n3,c3⟩:=s1;have a3:A3=some ⟨b3,bS,none⟩:=a3;subst a3;have ce:r.aT.length=n3:=J.out.at_.rl.aT.len;have F5:=J.out.at_.fr.a T (dI ⟨some ⟨b1,bb,none⟩,n1,c1⟩ t2 t3 t4) 42;obtain⟨W5,CZ,aG,F5⟩:=fP (w:=T) F5;have o5:=aW F5;have aQ:=fun{b o:Nat}{v:Value}(h:T.cell? ⟨b,o,none⟩=some v)=>(aG.cell (bu T _ h)).trans h;have ct:=aQ m0;have cv:=aQ m1;by_cases aL:mk= -1;rotate_left;·have bx:(mk != -1)=true:=fo.2 aL;gi_wp2;go_ret;exact⟨rfl,F5.bl⟩
 ·have bx:(mk != -1)=false:=by rw[aL];rfl
  obtain⟨D,j,e1,e2,e3,e4,e5,aO⟩:=afL ba W.d;have zz:=ba;obtain⟨k1,k2,k3,k4,-⟩:=zz;have cz:=aQ z0;have cA:=aQ z1;have cB:=aQ z2;have cE:=aQ z3;have cF:=aQ z4;have cG:=aQ z5;have cH:=aQ z6;obtain⟨W6,X0,br,F6⟩:=fP (w:=W5) (F5.a W5 [.string z.1,.int .i64 z.2.1,.int .i64 z.2.2.1,.int .i64 z.2.2.2.1,.int .i64 z.2.2.2.2.1,.int .i64 z.2.2.2.2.2.1,.bool z.2.2.2.2.2.2] 59);have y5:W5.heap.size=T.heap.size+1:=by rw[<-CZ];simp
  rw[y5]at F6;have E:=abL F6.drew;have HY:=oK aU bQ bP hcd aH;have HF:=Hd2 F6 (aG.trans (br.mono aG.size));obtain⟨G,aN⟩:=aC (z.2.1+z.2.2.2.1*(j:Int));obtain⟨sj,ar⟩:=aC (z.2.2.2.1*(j:Int));have f1:IntKind.i64.wrap (z.2.2.1-z.2.1)=z.2.2.1-z.2.1:=by rw[bR];omega
  have f2:IntKind.i64.wrap (D:Int)=(D:Int):=by rw[bR];omega
  have f3:IntKind.i64.wrap ((D:Int)+1)=(D:Int)+1:=by rw[bR];omega
  have f4:IntKind.i64.wrap sj=sj:=by rw[bR];rw[ar]at e4 e5;omega
  have f5:IntKind.i64.wrap (z.2.1+sj)=G:=by rw[bR,<-aN,ar];rw[ar]at e4 e5;omega
  have f6:¬z.2.2.2.1=0:=oE;have f7:¬((D:Int)+1)=0:=oE;have bt:i64 G:=by unfold i64;rw[<-aN];omega
  have bj:G≠ -1:=by rw[ar]at e4;omega
  have HI:=Hd2 bt bj;rw[aN]at aO;rw[show z=r.aT.getD q aao by rw[cx,I];rfl]at aO;have HZ:=h_ hy hl (show(q,g)∈aa 0 y.1 from aaV.2 ⟨bO _,l,hl,by rw[bz,aL]⟩) aO;clear aU bQ bP hcd aH hy hl bz I aO F5 F6 bt bj;gi_wp2;refine ak [] (List.range 19) oF oF ?_;refine eH ?_;refine aK ?_;refine lit ?_;obtain⟨W7,XM⟩:=aC W6.drew;rw[XM];have ah:Below T T W7:=by rw[<-XM];exact HF.u.drew
  replace J:=Hd (J.out.go ah);have F7:=HF.a.drew;rw[XM]at F7;have o7:=aW F7;obtain⟨v8,W8,r8,O8,ai⟩:=uz (t:=29) underlying29 adV J.out.at_.cs oE;obtain⟨C,b0,rfl⟩:=qA O8 oE;have a4:=O8.lt (k:=C) rfl;have bN:W7.heap.size=W6.heap.size:=by rw[<-XM];simp
  have cr:T.heap.size+1<W7.heap.size:=F7.mJ 2;have o8:=aW (F7.go ai);have JR:=Hd r8;have Y:=fB O8 (F7.go ai) (And.intro (ah.trans (ai.mono ah.size)) ai);have bU:=Hd F7;have av:=Hd ah;clear E ah F7 r8 O8 ai;have bf:=Hd (adW (M:= [C]) (w:=W8) (c:=toC y) (t1:=⟨some ⟨b1,bb,none⟩,n1,c1⟩) (t2:=t2) (t3:=t3) (t4:=t4) (i:=q) (k:=g) (m:=G) (fun z I=>by rw[bE]at I;subst I;exact a4.2) ((HY.d.marks.more (b:=C) oE).go Y.c) HZ.b (by rw[aZ];exact hg) HI.a (by have h9:=f.out.cl;show y.1.length<=1000;omega) oE);have HN:=Zw hp hq hg a4 bN cr;have bW:=h_ bA bB aZ an;clear aQ m0 m1 ct cv z0 z1 z2 z3 z4 z5 z6 cz cA cB cE cF cG cH v0 v1 v2 v3 o5 e1 e2 e3 e4 e5 f1 f2 f3 f4 f5 f6 f7 k1 k2 k3 k4 aN ar cg cj b8 cm cn co cq ba cf ci b7 aL bx bN a4 bA bB aZ b9 cc ce bD br aG y5 e0 S
  gi_wp2_with (first
   |(have g:=G1.out;clear g;refine Cl 17 bf.out ?_;rintro e U ⟨s',rfl,a7,Ns⟩;have O9:=Y.a.go Ns;obtain⟨es,bs,al⟩:=O9.get (k:=p) HZ.a;obtain⟨u1,u2,u3,u4,rfl,-⟩:=aaK bs;have k0:U.cell? ⟨C,p*4,none⟩=some u1.v/\U.frozen? ⟨C,p*4,none⟩=false:=al 0 _ rfl;have k1:U.cell? ⟨C,p*4+1,none⟩=some u2.v/\U.frozen? ⟨C,p*4+1,none⟩=false:=al 1 _ rfl;have k2:U.cell? ⟨C,p*4+2,none⟩=some u3.v/\U.frozen? ⟨C,p*4+2,none⟩=false:=al 2 _ rfl;have k3:U.cell? ⟨C,p*4+3,none⟩=some u4.v/\U.frozen? ⟨C,p*4+3,none⟩=false:=al 3 _ rfl;simp only[dK.v]at k0 k1 k2 k3;obtain⟨bh,az⟩:=aC (fM U C (p*4) (dI s' t2 t3 t4));have H:=az;simp only[fM,mz,Nat.reduceAdd]at H;have aA:=Y.c.trans (Ns.mono Y.c.size);have aY:Below W7 W7 bh:=by rw[<-az];exact aak HN.out.2.2.2.1.1 _ _ (Y.w.trans (Ns.mono Y.w.size))
     have a0:T.heap.size<=C:=by have:=HN.out;omega
     have bg:=O9.afw (k:=p) (x:=aa8 y (q,g) G) (us:=dI s' t2 t3 t4) HN.a (acW ⟨a7.less pf,(HY.d.bonus.more (b:=C) a0).go aA,(HY.d.malus.more (b:=C) a0).go aA,(HY.d.prev.more (b:=C) a0).go aA⟩ a7) (w':=bh) az;obtain⟨Ak,ck,ek,bw⟩:=bg.1.sl oE pf;cases ek;have ax:=Hd2 bw aY;have cy:=aW (bU.out.go aY);clear O9 bs al a7 bg aA bw aY Ns az;have G2:=Hd trivial)
   |(gi_at_builtin;refine cY rfl fun K aE=>?_;refine aI _ _ _ rfl rfl rfl JR.out (aE _ _ ?_);clear aE K;have G1:=Hd trivial)
   |fail)
  clear o7 o8 k0 k1 k2 k3 H JR bf Y HF;have bi:=av.out.trans (ax.u.mono av.out.size);replace J:=Hd ((J.out.go ax.u).add (fun V Z=>ax.a.go Z));have X:=aaR J.out.at_.2.rl (HY.d.go bi) HY.a HY.b HY.c J.out.at_.2.t f.out.hx f.out.hp f.out.hf f.out.hl f.out.cl f.out.kl;refine Cl 10 X ?_;clear X;rintro e bc ⟨O,hb⟩;obtain⟨Aa,na,ca,ka,rfl,ha⟩:=afq O;replace J:=Hd (((J.out.go hb).add (fun V Z=>Z)).map (Q:=fun V=>Sl aM V [] (some ⟨C,0,none⟩) n b0 (os.set p (aa8 y (q,g) G))/\KnB w V r ⟨some ⟨b3,bS,none⟩,n3,c3⟩ s2 s3 s4 s5 s6 s7 (some ⟨bo,oo,none⟩) n cp os) fun V k=>k.2);have L:=Hd ha;clear hb O ha bi cy;gi_wp2;have bd:Below bc bc bc.drew:=pd.drew;replace J:=Hd (J.out.go bd);replace L:=Hd (L.out.go bd);have bv:(os.set p (aa8 y (q,g) G))[p]?=some (aa8 y (q,g) G):=fm (by have:=bW.out;have:=HN.out;omega);have bZ:=(av.out.trans (ax.u.mono av.out.size));obtain⟨bk,ok,x1,x2,x3,x4,ek,⟨y0,y1,y2,y3⟩,hcd2⟩:=J.out.at_.1.abJ bv;cases ek;simp only[dK.v,dm]at y0 y1 y2 y3;replace y0:=stays y0;replace y1:=stays y1;replace y2:=stays y2;replace y3:=stays y3;have E:=abL J.out.at_.2.fr;have H:=aa9 (q:=(q,g)) HY.a HZ.w;have X:=Hd (aaR J.out.at_.2.rl hcd2 H (acs HY.b) (Pv H) J.out.at_.2.t f.out.hx f.out.hp f.out.hf f.out.hl f.out.cl f.out.kl);have ch:=HN.a;clear bd bv bZ hcd2 H;refine aP [] 11 oF oF ?_;refine ay 0 ?_;refine ay 1 ?_;refine ay 2 ?_;refine ay 3 ?_;refine ay 4 ?_;refine ay 5 ?_;refine eU 6 fun K hK=>?_;gi_wp2;refine Cl 10 X.out ?_;clear X;rintro e au ⟨O,hb⟩;obtain⟨Ab,nb,cb,kb,rfl,ha⟩:=afq O;replace J:=Hd (J.out.go hb);replace L:=Hd (L.out.go hb);have HB:=Hd ha;refine hK _ _ ⟨?_,?_⟩;clear hK K;·exact a_ hb _
  clear hb O ha;refine lit ?_;refine ay 7 ?_;refine ay 8 ?_;refine ay 9 ?_;refine ay 10 ?_;clear E y0 y1 y2 y3;rcases L.out.of with⟨rfl,hm,aq⟩|⟨rfl,hm⟩;rotate_left;·refine iq 1 ?_;refine jW fun K hK K' aE=>?_;gi_wp2;refine dC _ ?_;simp only[cu];gi_wp2;go_ret;exact⟨rfl,J.out.at_.2.fr.bl⟩
  have cd:aah r (toC (aa8 y (q,g) G))<=5040:=cD (adw HI.u) hm;obtain⟨rfl,-,ab⟩:kb=0/\aah r (toC (aa8 y (q,g) G))<=5040/\SlR au [] Ab nb cb (af r x (toC (aa8 y (q,g) G))):=HB.out.of.resolve_right (fun h=>absurd h.2 oE);have bJ:=ad8 (m:=G) (q:=(q,g)) HY.a HY.b f.out.hx f.out.hp HZ.c HZ.w HI.u;have ap:=(aaH (aa9 (q:=(q,g)) HY.a HZ.w) (acs (q:=(q,g)) (m:=G) HY.b) f.out.hx f.out.hp).ne;have am:=ab.len;have cP:((nb:Int)==0)=false:=by have:=e_.2 ap;rw[cC]at am;simp;omega
  obtain⟨la,a5⟩:=aC ((af r x (toC y)).map jd);obtain⟨lb,a1⟩:=aC ((af r x (toC (aa8 y (q,g) G))).map jd);have bM:∀z,z∈lb->z∈la:=fun z I=>by rw[<-a1]at I;obtain⟨u,F,rfl⟩:=ev.1 I;rw[<-a5];exact ev.2 ⟨u,bJ u F,rfl⟩
  have aB:Sl fC au [] Aa na ca la:=by rw[<-a5];exact aq
  have aD:Sl fC au [] Ab nb cb lb:=by rw[<-a1];exact ab
  replace J:=Hd ((J.out.add (fun V Z=>aD.go Z)).add (fun V Z=>aB.go Z));have bn:=aB.len;have bp:=aD.len;have YZ:=aB.small;have cJ:=aD.small;have HS:=fB bM bn bp;have HM:=Hd hm;clear hm cd ab bJ ap am a5 a1 bM aq aB aD L HB bn bp ch;refine iq 1 ?_;refine jW fun K hK K' aE=>?_;gi_wp2;refine dC _ ?_;simp only[cu];gi_wp2;gi_loopw[151] (fun i wv=>∃t:Nat,t<=nb/\i=.int .i64 t/\Hid (Below au au wv)) (fun i _=>nb-(intOf i).toNat);case atStart=>exact⟨0,bO _,rfl,Hd pd⟩
  case round=>
   obtain⟨t,ht,rfl,s⟩:=hrel;obtain⟨V1,rfl⟩:∃V,V=wr:=⟨_,rfl⟩;by_cases ao:t<nb
   ·obtain⟨R,a9⟩:=dW lb t (by have:=HS.v;omega);obtain⟨b5,o5,A5,n5,c5,A6,n6,c6,e5,g0,H,g2,g3,ad,ae⟩:=(J.out.go s.out).at_.2.1.MG a9;subst e5;have bV:=Hd (HS.a R (aR a9));obtain⟨W2,cL,aF,F2⟩:=fP (w:=V1) ((Fr.nil V1).a V1 [.bool R.1.1,.slice A5 n5 c5,.bool R.2.1,.slice A6 n6 c6] 48);have bY:=Hd (show RV W2 [] (.agg #[.bool R.1.1,.slice A5 n5 c5,.bool R.2.1,.slice A6 n6 c6]) R from⟨_,_,_,_,_,_,rfl,ad.go aF,ae.go aF⟩);have aw:=Hd2 F2 (s.out.trans (aF.mono s.out.size));clear a9 ad ae aF F2;gi_wp2;clear g0 H g2 g3;gi_loopw[28,157] (fun m i wv=>∃u:Nat,u<=na/\i=.int .i64 u/\m=.bool ((la.take u).any fun x=>decide (R=x))/\Hid (Below W2 W2 wv)) (fun _ i _=>na-(intOf i).toNat);case atStart=>exact⟨0,bO _,rfl,by rw[gO];rfl,Hd pd⟩
    case round=>
     obtain⟨u,F,rfl,rfl,hC⟩:=hrel;obtain⟨V3,rfl⟩:∃V,V=wr:=⟨_,rfl⟩;obtain⟨bm,aj⟩:=aC ((la.take u).any fun x=>decide (R=x));rw[aj];by_cases cO:u<na
     ·obtain⟨za,a8⟩:=dW la u (by have:=HS.b;omega);have bK:((la.take (u+1)).any fun x=>decide (R=x))=(bm||decide (R=za)):=by
       rw[eo,a8,List.any_append,aj];simp
      obtain⟨b6,o6,A7,n7,c7,A8,n8,c8,e6,g0,H,g2,g3,ad,ae⟩:=((J.out.go aw.u).go hC.out).at_.1.MG a8;subst e6;obtain⟨W4,I4,hb4,F4⟩:=fP (w:=V3) ((Fr.nil V3).a V3 [.bool za.1.1,.slice A7 n7 c7,.bool za.2.1,.slice A8 n8 c8] 48);have o4:=aW F4;have o2:=aW ((aw.a.go hC.out).go hb4);have HX:=Hd (zK ((bY.out.go hC.out).go hb4) (show RV W4 [] (.agg #[.bool za.1.1,.slice A7 n7 c7,.bool za.2.1,.slice A8 n8 c8]) za from⟨_,_,_,_,_,_,rfl,ad.go hb4,ae.go hb4⟩));have aX:=Hd (hC.out.trans (hb4.mono hC.out.size));have be:=Hd bK;clear a8 ad ae hb4 F4 bK aj;cases bm;·gi_wp2;refine Cl 13 HX.out ?_;rintro e w6 ⟨rfl,hb⟩;have bT:=Hd (aX.out.trans (hb.mono aX.out.size));clear hb;gi_wp2;exact⟨⟨u+1,oE,by go_num,by rw[be.out];rfl,bT⟩,by simp[intOf];omega⟩
      gi_wp2_with (first|(refine⟨bq,?_⟩)|fail)
      exact⟨⟨u+1,oE,by go_num,by rw[be.out];rfl,aX⟩,by simp[intOf];omega⟩
     ·obtain rfl:u=na:=oE;have ag:bm=true:=by
       rw[<-aj,bL (Nat.le_of_eq HS.b)];exact iz.2 ⟨R,bV.out,cw rfl⟩
      subst ag;clear aj;gi_wp2;exact⟨⟨t+1,oE,by go_num,Hd (aw.u.trans (hC.out.mono aw.u.size))⟩,by simp[intOf];omega⟩
   ·obtain rfl:t=nb:=oE;replace J:=Hd (J.out.go s.out);have bF:∀u,u∈os.set p (aa8 y (q,g) G)->f_ r k (toC u)/\yI r (toC u)/\vF r k (toC u)=0:=fun u F=>by
     rcases gN F with F|rfl;·exact f.out.hc u F
     have H:=aa9 (q:=(q,g)) HY.a HZ.w;exact⟨H,acs HY.b,Pv H⟩
    have bG:=afs (fun u F=>⟨(f.out.hc u F).1,(f.out.hc u F).2.1⟩) HZ.a f.out.hx f.out.hp HZ.c HZ.w HI.u;have ac:=Hd2 bF bG;obtain⟨V9,rfl⟩:∃V,V=V1:=⟨_,rfl⟩;clear bF bG s HS;gi_wp2;gi_loopw[173] (fun i wv=>∃t:Nat,t<=n/\i=.int .i64 t/\Hid (Below V9 V9 wv)) (fun i _=>n-(intOf i).toNat);case atStart=>exact⟨0,bO _,rfl,Hd pd⟩
    case round=>
     obtain⟨t,ht,rfl,s⟩:=hrel;have S:=aW (J.out.go s.out).at_.2.2.2.fr;by_cases ao:t<n
     ·have X:=aaS (e:=t) (J.out.go s.out).at_.2.2.2.rl (J.out.go s.out).at_.2.2.2.cs f.out.hc f.out.snd (J.out.go s.out).at_.2.2.2.t f.out.hx f.out.hp f.out.hf f.out.hl f.out.cl f.out.kl ao h6;have HX:=Hd X;clear X;gi_wp2;refine Cl 9 HX.out ?_;rintro e cR ⟨O,hb⟩;obtain⟨Ba,ma,da,ka,rfl,bH⟩:=afr O;replace s:=Hd (s.out.trans (hb.mono s.out.size));have L:=Hd bH;have o2:=aW (J.out.go s.out).at_.2.2.2.fr;have X:=aaS (e:=t) (J.out.go s.out).at_.2.2.2.rl (J.out.go s.out).at_.2.2.1 ac.a f.out.snd (J.out.go s.out).at_.2.2.2.t f.out.hx f.out.hp f.out.hf f.out.hl f.out.cl f.out.kl ao h6;replace HX:=Hd X;clear X hb O bH S;gi_wp2;refine Cl 9 HX.out ?_;rintro e cS ⟨O,hb⟩;obtain⟨Bb,mb,db,kb,rfl,bI⟩:=afr O;replace s:=Hd (s.out.trans (hb.mono s.out.size));replace L:=Hd (L.out.go hb);have HB:=Hd bI;clear hb O bI o2 HX;rcases L.out.of with⟨rfl,a6,aq⟩|⟨rfl,-⟩;rotate_left
      ·gi_wp2_with (first|(refine⟨bq,?_⟩)|fail)
       all_goals first
        |exact(gK (by assumption)).elim
        |exact⟨⟨t+1,oE,by go_num,s⟩,by simp[intOf];omega⟩
      obtain⟨rfl,-,ab⟩:=HB.out.of.resolve_right (fun h=>by
       obtain⟨-,u,F,cM⟩:=h;rcases gN F with F|rfl;·have:=a6 u F;omega
       have h9:=adw (r:=r) (c:=y) (q:=(q,g)) HI.u;have:=a6 y (aR HZ.a);omega)
      have ag:((os.map fun u=>af r x (toC u))).length=n:=by rw[cC];exact an
      have ap:=aeS (e:=t) (fun j hj=>ac.u.nw j (by rw[ac.u.len]at hj;exact hj)) (by rw[ac.u.len,ag];exact ao);have am:=ab.len;have cI:((mb:Int)==0)=false:=by have:=e_.2 ap;rw[cC]at am;simp;omega
      have bX:=Hd (aeI ab aq (fun z I=>by obtain⟨u,F,rfl⟩:=ev.1 I;exact ev.2 ⟨u,ac.u.ranks (by rw[ag];exact ao) F,rfl⟩));clear ag ap am aq ab L HB a6;gi_wp2;refine Cl 18 bX.out ?_;rintro e cT ⟨rfl,hb⟩;replace s:=Hd (s.out.trans (hb.mono s.out.size));clear hb;gi_wp2;exact⟨⟨t+1,oE,by go_num,s⟩,by simp[intOf];omega⟩
     ·gi_wp2;go_ret;exact⟨rfl,(J.out.go s.out).at_.2.2.2.fr.bl⟩
end
end
