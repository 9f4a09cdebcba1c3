/- Lemmas. -/
import Derived.Test.YtfdmnogfflcllaaGreatDoorM46
set_option linter.unusedVariables false
set_option linter.unusedSimpArgs false
set_option maxRecDepth 100000
set_option maxHeartbeats 20000000
namespace Go.Proofs.YtfdmnogfflcllaaGreatDoor
open Go.Proofs.Tryz Go.RowKit Go.Shelf
section
attribute [local go_sem] cK
theorem afc{nc:Nat}{l:List Int}(h:aa6 nc l=true){j:Nat}{y:Int}(hy:l[j]?=some y):y=0\/y=if j=nc+1 then 2 else 1:=by unfold aa6 at h;rw[cQ]at h;have b:=h j (fy.2 (bj.1 hy).1);rw[cx,hy,eT,ik,eZ,eZ]at b;exact b
section
variable {M:List Nat}{r:aS}{s1 s2 s3 s4 s5 s6 s7:dK}{w:World}{k:Nat}{x:aJ}
theorem aer(hr:dG w M r s1 s2 s3 s4 s5 s6 s7)(hx:r.rounds[k]?=some x)(hp:x.2.2.2.2.1=false)(hf:x.2.2.2.2.2.1=true):
 Calls prog 32 #[.agg (evV r s1 s2 s3 s4 s5 s6 s7 k).toArray] w fun e w'=>e=Wx 450/\Below w w w':=by
 refine wid ?_;obtain⟨h,g,C⟩:=s1;obtain⟨A5,n5,c5⟩:=s5;have j:r.aT.length=g:=hr.aT.len;have K:Sl aJ w M A5 n5 c5 r.rounds:=hr.rounds;have t:=K.small;have s:k<n5:=by rw[<-K.len];exact(bj.1 hx).1
 obtain⟨f,q,b⟩:=dR ((Fr.nil w).a w (evV r ⟨h,g,C⟩ s2 s3 s4 ⟨A5,n5,c5⟩ s6 s7 k) 79);obtain⟨p,v,B,m,d,rfl,⟨A,D,E,G,l,o⟩,⟨x6,x7,x8,x9,x10⟩,⟨x11,x12⟩,-,-,hs⟩:=(K.go b.bl).iw hx;obtain⟨W1,y,i,F1⟩:=fP (w:=f) (b.a f [.string x.1,.int .i64 x.2.1,.int .i64 x.2.2.1,.int .i64 x.2.2.2.1,.bool x.2.2.2.2.1,.bool x.2.2.2.2.2.1,.int .i64 (au x).kind,.string (au x).name,.int .i64 (au x).n,.int .i64 (au x).d,.slice B m d,.string x.2.2.2.2.2.2.2.1,.int .i64 x.2.2.2.2.2.2.2.2] 68);have u:=aW b;have z:=aW F1;have F:=Hd F1;rw[hp]at z l y F;rw[hf]at z o y F;clear b F1 hr K hs hx hp hf i j;refine ent func32 rfl ntmps32 ?_
 gi_wp2_with (first
  |(refine Cl 30 (aaP _ _) ?_;rintro e J ⟨rfl,rfl⟩)
  |(refine⟨bq,?_⟩))
 exact⟨rfl,rfl,F.out.bl⟩
theorem aco(hr:dG w M r s1 s2 s3 s4 s5 s6 s7)(hS:Sound r)(hx:r.rounds[k]?=some x)(hp:x.2.2.2.2.1=false)(hf:x.2.2.2.2.2.1=false)(hlv:aa6 r.aT.length (aaL r.aT.length k (au x))=true)(ht:Tab w)(hM:b_ M w)(hc:r.aT.length<=1000)(hk:k<=1000):
 CB 32 #[.agg (evV r s1 s2 s3 s4 s5 s6 s7 k).toArray] (.tuple #[]) w:=by
 refine wid ?_;obtain⟨D,f,I⟩:=s1;obtain⟨A5,n5,c5⟩:=s5;have u:r.aT.length=f:=hr.aT.len;have K:Sl aJ w M A5 n5 c5 r.rounds:=hr.rounds;have Z:=K.small;have W:k<n5:=by rw[<-K.len];exact(bj.1 hx).1
 obtain⟨q,U,h⟩:=dR ((Fr.nil w).a w (evV r ⟨D,f,I⟩ s2 s3 s4 ⟨A5,n5,c5⟩ s6 s7 k) 79);obtain⟨R,o5,B,m,d,rfl,⟨x0,x1,x2,x3,P,Q⟩,⟨x6,x7,x8,x9,x10⟩,⟨x11,x12⟩,-,-,hs⟩:=(K.go h.bl).iw hx;have HX:=Hd2 hx hp;obtain⟨W1,s,J,F1⟩:=fP (w:=q) (h.a q [.string x.1,.int .i64 x.2.1,.int .i64 x.2.2.1,.int .i64 x.2.2.2.1,.bool x.2.2.2.2.1,.bool x.2.2.2.2.2.1,.int .i64 (au x).kind,.string (au x).name,.int .i64 (au x).n,.int .i64 (au x).d,.slice B m d,.string x.2.2.2.2.2.2.2.1,.int .i64 x.2.2.2.2.2.2.2.2] 68);have o0:=aW h;have z:=aW F1;have F:=Hd F1;have t:=Hd (aep (hr.go F1.bl) hS hx hp (tab_below ht F1.bl) (hM.le F1.bl.size) hc hk);rw[hp]at z P s F;rw[hf]at z Q s F;rw[u]at hlv t hc;have G:=Hd hlv;clear h F1 hr K hs hx hp hf J u hS ht hM hlv;refine ent func32 rfl ntmps32 ?_
 gi_wp2_with (first
  |(have g:=E.out;clear g;refine Cl 65 (aax _) ?_;rintro e C ⟨rfl,rfl⟩)
  |(have g:=L.out;clear g;refine Cl 67 t.out ?_;rintro e T ⟨A,n,c,rfl,X,hb4⟩;replace F:=Hd (F.out.go hb4);have z:=aW F.out;have Y:=X.small;have H:=Hd2 X X.len;have E:=Hd trivial;clear hb4 X)
  |(refine Cl 30 (aaq _ _) ?_;rintro e w3 ⟨rfl,rfl⟩;have L:=Hd trivial)
  |fail)
 gi_loopw[36] (fun i wr=>∃j:Nat,j<=n/\i=.int .i64 j/\T=wr) (fun i _=>n-(intOf i).toNat);case atStart=>exact⟨0,bO _,rfl,rfl⟩
 case round=>
  obtain⟨j,V,rfl,rfl⟩:=hrel;by_cases O:j<n
  ·obtain⟨b,o,y,rfl,S,-,-,v⟩:=H.a.pR O;have l:=afc G.out v;clear v;by_cases p:j=f+1
   ·have N:(((j:Nat):Int)==((f:Nat):Int)+1)=true:=oS;rw[if_pos p]at l;subst p;rcases l with rfl|rfl
    all_goals
     gi_wp2_with (first
      |(refine Cl 30 (aaq _ _) ?_;rintro e C ⟨rfl,rfl⟩)
      |(refine⟨bq,?_⟩))
     exact⟨⟨f+1+1,oE,by go_num,oY⟩,by simp[intOf];omega⟩
   have N:(((j:Nat):Int)==((f:Nat):Int)+1)=false:=oS;rw[if_neg p]at l;rcases l with rfl|rfl
   all_goals
    gi_wp2_with (first
     |(refine Cl 30 (aaq _ _) ?_;rintro e C ⟨rfl,rfl⟩)
     |(refine⟨bq,?_⟩))
    exact⟨⟨j+1,oE,by go_num,oY⟩,by simp[intOf];omega⟩
  ·obtain rfl:j=n:=oE;gi_wp2;go_end0;exact⟨rfl,F.out.bl⟩
end
section
variable {r:aS}{s1 s2 s3 s4 s5 s6 s7:dK}{c:dS}{t1 t2 t3 t4:dK}{w:World}{k:Nat}{x:aJ}
theorem adO{i:Int}(hr:dG w [] r s1 s2 s3 s4 s5 s6 s7)(hs:Sound r)(ht:Tab w)(hi:i<0\/(r.rounds.length:Int)<=i):
 CB 10 #[.agg (aV r s1 s2 s3 s4 s5 s6 s7).toArray,.int .i64 i,.agg (dI t1 t2 t3 t4).toArray] (.tuple #[.slice none 0 0,.int .i64 1]) w:=by
 refine wid ?_;obtain⟨W1,y,F1⟩:=dR ((((Fr.nil w).a w (aV r s1 s2 s3 s4 s5 s6 s7) 28).a (w+1) (dI t1 t2 t3 t4) 42).a (w+2) [.int .i64 0] 32);have z:=aW F1;have F:=Hd F1;have HB:=Hd (aef (hr.go F1.bl) hs (tab_below ht F1.bl) pf hi);clear F1 hr hs ht hi;refine qj func10 rfl ntmps10 ?_
 gi_wp2_with (first
  |(refine Cl 29 HB.out ?_;rintro e l ⟨rfl,d⟩;replace F:=Hd (F.out.go d);clear d)
  |fail)
 have g:=F.out.bl;have b:=F.out.aQ 2 0;have f3:=F.out.zN 2 0;try clear z
 refine eM (f:=28) (args:=#[.pointer (some ⟨w+1+1,0,none⟩)]) oO oO oX (fun _ _=>bq) ?_;refine(aam ⟨w+1+1,0,none⟩ 1 0 [] _ b f3).mono ?_;rintro e h j ⟨rfl,rfl,rfl⟩;refine⟨.tuple #[.slice none 0 0,.int .i64 1],?_,rfl,g.setCell (p:=⟨w+1+1,0,none⟩) oS _⟩;simp[results,results10,go_sem,b]
theorem ads{K:Int}(hr:dG w [] r s1 s2 s3 s4 s5 s6 s7)(hc:jE w [] c t1 t2 t3 t4)(hs:Sound r)(hk:vF r k c=K)(h0:K≠0)(ht:Tab w)(hi:k<r.rounds.length):
 CB 10 #[.agg (aV r s1 s2 s3 s4 s5 s6 s7).toArray,.int .i64 k,.agg (dI t1 t2 t3 t4).toArray] (.tuple #[.slice none 0 0,.int .i64 K]) w:=by
 refine wid ?_;obtain⟨W1,y,F1⟩:=dR ((((Fr.nil w).a w (aV r s1 s2 s3 s4 s5 s6 s7) 28).a (w+1) (dI t1 t2 t3 t4) 42).a (w+2) [.int .i64 0] 32);have z:=aW F1;have F:=Hd F1;have HB:=Hd (aa7 (hr.go F1.bl) hs (tab_below ht F1.bl) pf hi);have m:=Hd (fun(V:World) (hb:Below w w V)=>aeg (i:=k) (hr.go hb) (hc.go hb) hs hk h0 (tab_below ht hb) pf);clear F1 hr hc hs ht hi hk;refine qj func10 rfl ntmps10 ?_
 gi_wp2_with (first
  |(have g:=L.out;clear g;refine Cl 31 HX.out ?_;rintro e T ⟨rfl,hb4⟩;replace F:=Hd (F.out.go hb4);clear hb4)
  |(refine Cl 29 HB.out ?_;rintro e l ⟨rfl,d⟩;have U:=F.out.go d;have z:=aW U;obtain⟨J,n,F3⟩:=dR (U.a l (evV r s1 s2 s3 s4 s5 s6 s7 k) 79);have j:=aW F3;have HX:=Hd (m.out _ F3.bl);replace F:=Hd F3;have L:=Hd trivial;clear d U F3)
  |fail)
 try clear j
 have h:=F.out.bl;have b:=F.out.aQ 2 0;have f3:=F.out.zN 2 0;try clear z
 refine eM (f:=28) (args:=#[.pointer (some ⟨w+1+1,0,none⟩)]) oO oO oX (fun _ _=>bq) ?_;refine(aam ⟨w+1+1,0,none⟩ K 0 [] _ b f3).mono ?_;rintro e o q ⟨rfl,rfl,rfl⟩;refine⟨.tuple #[.slice none 0 0,.int .i64 K],?_,rfl,h.setCell (p:=⟨w+1+1,0,none⟩) oS _⟩;simp[results,results10,go_sem,b]
theorem adt(hr:dG w [] r s1 s2 s3 s4 s5 s6 s7)(hc:jE w [] c t1 t2 t3 t4)(hs:Sound r)(hk:vF r k c=0)(ht:Tab w)(hx:r.rounds[k]?=some x)(hp:x.2.2.2.2.1=false)(hf:x.2.2.2.2.2.1=true):
 CB 10 #[.agg (aV r s1 s2 s3 s4 s5 s6 s7).toArray,.int .i64 k,.agg (dI t1 t2 t3 t4).toArray] (.tuple #[.slice none 0 0,.int .i64 450]) w:=by
 refine wid ?_;obtain⟨W1,y,F1⟩:=dR ((((Fr.nil w).a w (aV r s1 s2 s3 s4 s5 s6 s7) 28).a (w+1) (dI t1 t2 t3 t4) 42).a (w+2) [.int .i64 0] 32);have z:=aW F1;have F:=Hd F1;have HB:=Hd (aa7 (hr.go F1.bl) hs (tab_below ht F1.bl) pf (bj.1 hx).1);have m:=Hd (fun(V:World) (hb:Below w w V)=>ab_ (i:=k) (hr.go hb) (hc.go hb) hs hk (tab_below ht hb) pf);have HL:=Hd (fun(V:World) (hb:Below w w V)=>aer (hr.go hb) hx hp hf);clear F1 hr hc hs ht hk hx hp hf;refine qj func10 rfl ntmps10 ?_
 gi_wp2_with (first
  |(have g:=u.out;clear g;refine Cl 32 j.out ?_;rintro e A ⟨rfl,h⟩;replace F:=Hd (F.out.go h);clear h)
  |(have g:=L.out;clear g;refine Cl 31 HX.out ?_;rintro e T ⟨rfl,hb4⟩;have U:=F.out.go hb4;have o:=aW U;have j:=Hd (HL.out _ U.bl);replace F:=Hd U;have u:=Hd trivial;clear hb4 U)
  |(refine Cl 29 HB.out ?_;rintro e q ⟨rfl,d⟩;have U:=F.out.go d;have z:=aW U;obtain⟨J,s,F3⟩:=dR (U.a q (evV r s1 s2 s3 s4 s5 s6 s7 k) 79);have n:=aW F3;have HX:=Hd (m.out _ F3.bl);replace F:=Hd F3;have L:=Hd trivial;clear d U F3)
  |fail)
 try clear n o
 have l:=F.out.bl;have b:=F.out.aQ 2 0;have f3:=F.out.zN 2 0;try clear z
 refine eM (f:=28) (args:=#[.pointer (some ⟨w+1+1,0,none⟩)]) oO oO oX (fun _ _=>bq) ?_;refine(aam ⟨w+1+1,0,none⟩ 450 0 [] _ b f3).mono ?_;rintro e t v ⟨rfl,rfl,rfl⟩;refine⟨.tuple #[.slice none 0 0,.int .i64 450],?_,rfl,l.setCell (p:=⟨w+1+1,0,none⟩) oS _⟩;simp[results,results10,go_sem,b]
theorem aaR(hr:dG w [] r s1 s2 s3 s4 s5 s6 s7)(hc:jE w [] c t1 t2 t3 t4)(hg:f_ r k c)(hw:yI r c)(hk:vF r k c=0)(ht:Tab w)(hx:r.rounds[k]?=some x)(hp:x.2.2.2.2.1=false)(hf:x.2.2.2.2.2.1=false)(hlv:aa6 r.aT.length (aaL r.aT.length k (au x))=true)(hcl:r.aT.length<=1000)(hkl:k<=1000):
 Calls prog 10 #[.agg (aV r s1 s2 s3 s4 s5 s6 s7).toArray,.int .i64 k,.agg (dI t1 t2 t3 t4).toArray] w fun e w'=>((aah r c<=5040/\∃A n cp,e=.returned (.tuple #[.slice A n cp,.int .i64 0])/\SlR w' [] A n cp (af r x c))\/(5040<aah r c/\e=.returned (.tuple #[.slice none 0 0,.int .i64 2])))/\Below w w w':=by
 refine wid ?_;obtain⟨W1,H,F1⟩:=dR ((((Fr.nil w).a w (aV r s1 s2 s3 s4 s5 s6 s7) 28).a (w+1) (dI t1 t2 t3 t4) 42).a (w+2) [.int .i64 0] 32);have z:=aW F1;have F:=Hd F1;have HB:=Hd (aa7 (hr.go F1.bl) hg.1 (tab_below ht F1.bl) pf (bj.1 hx).1);have t:=Hd (fun(V:World) (hb:Below w w V)=>ab_ (i:=k) (hr.go hb) (hc.go hb) hg.1 hk (tab_below ht hb) pf);have HL:=Hd (fun(V:World) (hb:Below w w V)=>aco (hr.go hb) hg.1 hx hp hf hlv (tab_below ht hb) pf hcl hkl);have v:=Hd (fun(V:World) (hb:Below w w V)=>abT (hr.go hb) (hc.go hb) hg hw hx hp (tab_below ht hb) pf);clear F1 hr hc hg hw ht hk hx hp hf hlv;refine qj func10 rfl ntmps10 ?_
 gi_wp2_with (first
  |(have g:=Y.out;clear g;refine Cl 33 y.out ?_;rintro e q ⟨⟨B,A,n,cp,rfl,X⟩|⟨hgt,rfl⟩,hb6⟩
    all_goals
     have U:=F.out.go hb6;have h:=aW U;replace F:=Hd U)
  |(have g:=u.out;clear g;refine Cl 32 s.out ?_;rintro e K ⟨rfl,l⟩;have U:=F.out.go l;have h:=aW U;have y:=Hd (v.out _ U.bl);replace F:=Hd U;have Y:=Hd trivial;clear l U)
  |(have g:=L.out;clear g;refine Cl 31 HX.out ?_;rintro e T ⟨rfl,hb4⟩;have U:=F.out.go hb4;have o:=aW U;have s:=Hd (HL.out _ U.bl);replace F:=Hd U;have u:=Hd trivial;clear hb4 U)
  |(refine Cl 29 HB.out ?_;rintro e G ⟨rfl,j⟩;have U:=F.out.go j;have z:=aW U;obtain⟨J,I,F3⟩:=dR (U.a G (evV r s1 s2 s3 s4 s5 s6 s7 k) 79);have m:=aW F3;have HX:=Hd (t.out _ F3.bl);replace F:=Hd F3;have L:=Hd trivial;clear j U F3)
  |fail)
 ·have b:=F.out.aQ 2 0;have C:q.setCell ⟨w+1+1,0,none⟩ (.int .i64 0)=q:=aN b;have d:=F.out.bl;try clear z m o h
  try rw[C]
  refine eM (f:=28) (args:=#[.pointer (some ⟨w+1+1,0,none⟩)]) oO oO oX (fun _ _=>bq) ?_;refine(abx ⟨w+1+1,0,none⟩ _).mono ?_;rintro e D E ⟨rfl,rfl,rfl⟩;refine⟨.tuple #[.slice A n cp,.int .i64 0],?_,.inl ⟨B,_,_,_,rfl,X⟩,d⟩;simp[results,results10,go_sem,b]
 ·try clear m o h
  have d:=F.out.bl;have b:=F.out.aQ 2 0;have f3:=F.out.zN 2 0;try clear z
  refine eM (f:=28) (args:=#[.pointer (some ⟨w+1+1,0,none⟩)]) oO oO oX (fun _ _=>bq) ?_;refine(aam ⟨w+1+1,0,none⟩ 2 0 [] _ b f3).mono ?_;rintro e D E ⟨rfl,rfl,rfl⟩;refine⟨.tuple #[.slice none 0 0,.int .i64 2],?_,.inr ⟨hgt,rfl⟩,d.setCell (p:=⟨w+1+1,0,none⟩) oS _⟩;simp[results,results10,go_sem,b]
end
end
