/- Lemmas and walks; no statement is proved here. -/
import Derived.Sort.LoopGhostIn
import Derived.Test.YtefnknhjlejalaaGreatDoorM12
set_option linter.unusedVariables false
set_option linter.unusedSimpArgs false
set_option maxRecDepth 20000
set_option maxHeartbeats 6000000
namespace Go.Proofs.YtefnknhjlejalaaGreatDoor
open Go.Proofs.Tryz Go.RowKit Go.Shelf
theorem ac5{p:Prop}(h:p:=by have L_:=World.ownsRow_lit (base:=w.heap.size+1) (size:=1) (e:=3) (w.alloc (.cells #[.bool false,.slice none 0 0] 28)) #[] 0 (by simp) (by simp[maxLen]) rfl;rw[show(w.alloc (.cells #[.bool false,.slice none 0 0] 28)).heap.size=w.heap.size+1 by simp]at L_;exact⟨0,x, [],Nat.le_refl _,rfl,Hd2 (List.nil_append _).symm rfl,L_,by exact bel,by simp,by simp[go_sem],by simp[go_sem],by simp[go_sem],by simp[go_sem]⟩):p:=h
theorem adu{p:Prop}(h:p:=by
 gi_roundg (x%gk);case measure=>exact Nat.mod_lt _ hy0
 case rel=>
  have hq2:q2<=m':=by rw[<-G4.out.1.eu,<-HM0.out];exact kR (Nat.le_of_lt (Nat.mod_lt _ hy0))
  exact⟨gk,_,_,_,_,_,_,rfl,rfl,hm',by omega,⟨by rw[LJ];exact hr.out.1,hr.out.2.1.go G4.out.2,hr.out.2.2.2.1.go G4.out.2,G4.out.1,hr.out.2.2.2.2.le G4.out.2.size⟩⟩):p:=h
theorem ady{p:Prop}(h:p:=by have:=P.out.1;rw[hI.out.1,List.length_append,hI.out.2]at this;omega):p:=h
theorem ad4{p:Prop}(h:p:=by
 by_cases h0:z=0;·subst h0;simp[bG,bU]
 have:(bG z).length≠0:=by intro e;have:=jO.1 (List.length_eq_zero_iff.1 e);omega
 by_cases h1:z<0;·simp[h1];omega
 simp[h1];omega):p:=h
theorem aeg{p:Prop}(h:p:=by
 rcases List.mem_cons.1 hj with rfl|hj;·omega
 have:=P.out.2.1 j hj;omega):p:=h
theorem aew{p:Prop}(h:p:=by
 rcases List.mem_cons.1 hk with rfl|hk;·omega
 have:=hM k hk;omega):p:=h
theorem aez{p:Prop}(h:p:=by go_ret;exact⟨by rw[HR.out];rfl,G5.out.bl.alloc G5.out.bl.size _⟩):p:=h
theorem aeB{p:Prop}(h:p:=by refine⟨?_,by simp[hI.out.2]⟩;rw[hI.out.1,iP (by omega)];simp):p:=h
theorem aeU{p:Prop}(h:p:=by
 rcases Nat.eq_zero_or_pos gk with e|e;·subst e;rw[bU]at hm0;exact absurd hm0.symm h0
 exact e):p:=h
theorem ae4{p:Prop}(h:p:=by obtain⟨A,n,c,B,m,d,rfl,h1,h2⟩:=h;exact⟨A,n,c,B,m,d,rfl,h1.go hb,h2.go hb⟩):p:=h
variable {x:Rt}{n base s c m g:Nat}{w W W' V:World}{v a b v1 v2 d u0 u1 u2 u3:Value}{xs l1 l2:List Int}{M:List Nat}{z:Int}{q1 q2 q r p:Bool}{A B:Option Addr}{e f:TypeId}
section
attribute [local go_sem] Oper.semAt_some
theorem O7(r:Nat):bits .and .u64 (r:Int) 1073741823=((r%BB:Nat):Int):=by
 have hm:(BitVec.ofInt 64 1073741823).toNat=2^30-1:=by decide
 have key:(BitVec.ofInt 64 (r:Int) &&& BitVec.ofInt 64 1073741823).toNat=((r:Int)% ((2^64:Nat):Int)).toNat%2^30:=by rw[BitVec.toNat_and,BitVec.toNat_ofInt,hm,Nat.and_two_pow_sub_one_eq_mod]
 show IntKind.u64.wrap ((BitVec.ofInt 64 (r:Int) &&& BitVec.ofInt 64 1073741823).toNat:Nat)=((r%1073741824:Nat):Int);rw[key,IntKind.wrap_u64];omega
theorem BL{x:Nat}(h:x<=18446744073709551615):(bC x).length<=3:=by
 by_cases h1:x=0;·rw[h1,bU];simp
 rw[iP h1];by_cases h2:x/BB=0;·rw[h2,bU];simp
 rw[iP h2];by_cases h3:x/BB/BB=0;·rw[h3,bU];simp
 rw[iP h3];have h4:x/BB/BB/BB=0:=by show x/1073741824/1073741824/1073741824=0;omega
 rw[h4,bU];simp
theorem Tt{n:Int}(h:i64 n):(if n<0 then(IntKind.u64.wrap (-(IntKind.u64.wrap n)))else IntKind.u64.wrap n)=(n.natAbs:Int):=by unfold i64 at h;rw[IntKind.wrap_u64,IntKind.wrap_u64];split<;>omega
theorem O8(h:w.ownsRow base 3 1 v n (xs.map (Value.int .i64)))(hb:base<=w.heap.size)(hn:n<=1000000000)(g:Nat)(x:Int)
 (hc:w.cell? ⟨g,0,none⟩=some (.int .i64 x)):
 ∃v' w',(Builtin.append_ #[125,125] 125 #[v,.slice (some ⟨g,0,none⟩) 1 1]).run prog w=.ok v' w'/\w'.ownsRow base 3 1 v' (n+1) ((xs++ [x]).map (Value.int .i64))/\w.grownBy w' v.ownBlock/\(v'.ownBlock=v.ownBlock\/v'.ownBlock=some w.heap.size)/\∃gg cc,v'=.slice (some ⟨gg,0,none⟩) (n+1) cc:=by
 obtain⟨i0,hi,hz0,hz1,hz2⟩:=info_parts qo;obtain⟨v',w',h1,h2,h3,_,h5⟩:=run_append_own_at (P:=prog) w base 125 125 3 i0 (.int .i64 0) 1 8 underlying125 hi hz0 hz1 hz2 rfl (by decide) v n _ h ⟨g,0,none⟩ 1 1 [.int .i64 x] rfl (by intro j u hu;match j,hu with|0,hu=>cases hu;exact hc) (by simp[Value.oneCell']) (by unfold maxLen;omega) (by omega) hb;rw[List.map_append];exact⟨v',w',h1,h2,h3,h5,ownsRow_succ h2⟩
theorem WI(h:W.ownsRow base 3 1 v n (xs.map (Value.int .i64)))(hb:base<=W.heap.size)(hn:n<=1000000000)(x:Int):
 ∃v' W',(Builtin.append_ #[125,125] 125 #[v,.slice (some ⟨W.heap.size,0,none⟩) 1 1]).run prog (W.alloc (.cells #[.int .i64 x] 3))=.ok v' W'/\W'.ownsRow base 3 1 v' (n+1) ((xs++ [x]).map (Value.int .i64))/\Below base W W'/\∃gg cc,v'=.slice (some ⟨gg,0,none⟩) (n+1) cc:=by
 obtain⟨v',W',r1,r2,r3,r4,r5⟩:=O8 (h.alloc (.cells #[.int .i64 x] 3)) (by simp;omega) hn W.heap.size x (by simp[go_sem]);exact aeK
theorem Ih{n:Int}(hM:b_ M w)(hn:i64 n):
 Calls prog 104 #[.int .i64 n] w fun e w'=>∃u,e=.returned u/\ZV w' M u n/\Below w.heap.size w w':=by
 refine wid ?_;have hw:=Tt hn;have hx3:(bC n.natAbs).length<=3:=BL (by unfold i64 at hn;omega);obtain⟨x,hx⟩:=aC n.natAbs;have hxl:x<=9223372036854775808:=by unfold i64 at hn;omega
 rw[hx]at hw hx3;have P:=fB hx3 hM hx;clear hx3 hM hx hn;by_cases hneg:n<0;all_goals(
 first
  |rw[if_pos hneg]at hw
  |rw[if_neg hneg]at hw
 refine ent func104 rfl ntmps104 ?_;gi_wp2;gi_loopw[3,4] (fun v u wr=>∃(k r:Nat) (out:List Nat),r<=x/\u=.int .u64 r/\Hid (bC x=out++bC r/\out.length=k)/\Hid (wr.ownsRow (w.heap.size+1) 3 1 v k ((ints out).map (Value.int .i64)))/\Below w.heap.size w wr/\w.heap.size+1<=wr.heap.size/\wr.cell? ⟨w.heap.size,0,none⟩=some (.bool false)/\wr.cell? ⟨w.heap.size,1,none⟩=some (.slice none 0 0)/\wr.frozen? ⟨w.heap.size,0,none⟩=false/\wr.frozen? ⟨w.heap.size,1,none⟩=false) (fun _ u _=>(intOf u).toNat);case atStart=>exact ac5
 case round=>
  obtain⟨k,r,out,hr,rfl,hI,hO,hb,hsz,c0,c1,f0,f1⟩:=hrel;by_cases hr0:0<r
  ·have hk:k<=3:=by exact ady
   obtain⟨v',W',r1,r2,r3,gg,cc,rfl⟩:=WI hO.out hsz (by omega) ((r:Int)% (BB:Int));rw[show ints out++ [(r:Int)% (BB:Int)]=ints (out++ [r%BB]) by simp[ints]]at r2;have hstep:bC x=(out++ [r%BB])++bC (r/BB)/\(out++ [r%BB]).length=k+1:=by exact aeB
   have hd1:r/BB<r:=Nat.div_lt_self hr0 rE;have JR:=Hd r1;have HR:=fB r2 (hb.trans (r3.mono (by omega))) hstep;have e1:=O7 r;have e2:(r:Int)/1073741824=((r/BB:Nat):Int):=by rw[V6];exact(Int.natCast_ediv _ _).symm
   have HE:=Hd e2;have e3:IntKind.i64.wrap ((r:Int)% (BB:Int))=(r:Int)% (BB:Int):=by rw[show(r:Int)% (BB:Int)=((r%BB:Nat):Int)from(Int.natCast_emod _ _).symm];have:=Nat.mod_lt r eX;have h2:BB<=1073741824:=Nat.le_refl _;rw[IntKind.wrap_i64];omega
   have hs3:=r3.size;have c0':=(r3.cell (p:=⟨w.heap.size,0,none⟩) (Nat.lt_succ_self _)).trans c0;have c1':=(r3.cell (p:=⟨w.heap.size,1,none⟩) (Nat.lt_succ_self _)).trans c1;have f0':=(r3.frozen (p:=⟨w.heap.size,0,none⟩) (Nat.lt_succ_self _)).trans f0;have f1':=(r3.frozen (p:=⟨w.heap.size,1,none⟩) (Nat.lt_succ_self _)).trans f1;have HC:=h_ c0' c1' f0' f1';clear c0' c1' f0' f1' c0 c1 f0 f1;clear r1 r2 r3 hstep hI hO
   gi_wp2_with (first
    |(gi_at_builtin;refine wpListIn_plain rfl fun K hK'=>?_;refine aI _ _ _ rfl rfl rfl JR.out (hK' _ _ ?_);clear hK' K)
    |fail)
   exact⟨⟨k+1,r/BB,_,by omega,by rw[<-HE.out];rfl,HR.out.2.2,HR.out.1,HR.out.2.1,by omega,HC.out.1,HC.out.2.1,HC.out.2.2.1,HC.out.2.2.2⟩,by have h2:=HE.out;show((r:Int)/(BB:Int)).toNat<((r:Int)).toNat;rw[V6]at h2;rw[h2,Int.toNat_natCast,Int.toNat_natCast];exact hd1⟩
  ·obtain rfl:r=0:=by omega
   have hk:k<=3:=by exact ady
   have hd:bC x=out:=by have:=hI.out.1;rwa [bU,List.append_nil]at this
   have hg:Good out:=by rw[<-hd];exact aO x
   obtain⟨O,cO,rfl,hsl⟩:=Sl.BO hO.out (fU hg) (by omega) (M:=w.heap.size::M) (by intro j hj;exact aeg);rw[<-hd]at hsl;have HF:=Hd hsl;clear hsl hO hI hd hg;gi_wp2;refine⟨rfl,.agg #[.bool (decide (n<0)),.slice O k cO],by simp[results,go_sem,c0,c1,hneg],.agg #[.bool (decide (n<0)),.slice O k cO],rfl,⟨O,k,cO,rfl,?_⟩,?_⟩
   ·have h:=HF.out.keep ((((Keeps.refl (w.heap.size::M) wr).setCell (p:=⟨w.heap.size,0,none⟩) (.inl (by simp)) (.bool (decide (n<0)))).setCell (p:=⟨w.heap.size,1,none⟩) (.inl (by simp)) (.slice O k cO)));have h2:=h.less (M':=M) (fun j hj=>List.mem_cons_of_mem _ hj);rw[show bG n=bC x from by unfold bG;rw[P.out.2.2]]
    first
     |exact h2
     |(simp only[hneg,decide_true]at h2;exact h2)
   exact(hb.setCell (p:=⟨w.heap.size,0,none⟩) (Nat.le_refl _) _).setCell (p:=⟨w.heap.size,1,none⟩) (Nat.le_refl _) _)
theorem yF(x:Int)(w:World):Calls prog 115 #[.bool true,.int .i64 x] w fun e w'=>e=.returned (.tuple #[])/\w'=w:=by refine wid ?_;refine ent func115 rfl ntmps115 ?_;gi_wp2;go_end0;exact⟨rfl,rfl⟩
theorem TW(x:Int)(w:World):Calls prog 115 #[.bool false,.int .i64 x] w fun e w'=>e=Wx x/\w'=w:=by
 refine wid ?_;refine ent func115 rfl ntmps115 ?_;gi_wp2
 first
  |exact⟨rfl,rfl⟩
  |exact⟨rfl,rfl,rfl⟩
theorem WJ(z:Int)(w:World):Calls prog 119 #[.int .i64 z,.int .i64 0] w fun e w'=>e=.returned (.int .i64 z)/\w'=w:=by
 refine wid ?_;refine ent func119 rfl ntmps119 ?_;gi_wp2_with (refine Cl 115 (yF _ _) ?_;rintro e w2 ⟨rfl,rfl⟩)
 go_ret;exact⟨rfl,rfl⟩
theorem Ei(h:ZV w M v z):Calls prog 84 #[v,.int .i64 0] w fun e w'=>e=.returned v/\ZV w' M v z/\Below w.heap.size w w':=by
 refine wid ?_;obtain⟨A,n,c,rfl,hs⟩:=h;have S:=Hd hs;clear hs;obtain⟨b,hb⟩:=aC (aG z);have HB:=Hd hb;rw[hb];clear hb;cases b;all_goals(
 refine ent func84 rfl ntmps84 ?_;gi_wp2_with (refine Cl 115 (yF _ _) ?_;rintro e w2 ⟨rfl,rfl⟩)
 exact⟨rfl,_,by simp[results,go_sem],rfl,⟨A,n,c,by rw[HB.out],S.out.go (by exact bel)⟩,by exact bel⟩)
theorem nM(h:ZV w M v z):CB 40 #[v] (.bool (decide (0<z))) w:=by
 refine wid ?_;obtain⟨A,n,c,rfl,hs⟩:=h;have hl:=hs.eu;have hz:decide (0<z)=(!aG z&&decide (0<n)):=by unfold aG;rw[<-hl];exact ad4
 rw[hz];clear hs hl hz;cases aG z;all_goals(
 by_cases hn:n=0;all_goals(
 refine ent func40 rfl ntmps40 ?_;gi_wp2;go_ret;exact⟨by first|rfl|simp[hn]|(simp;omega),by exact bel⟩))
theorem BN(p:Addr)(x y:Int)(older:List PanicEntry)(w:World)(hc:w.cell? p=some (.int .i64 y))(hf:w.frozen? p=false):
 CallsDIn Fence.wide n prog 81 #[.pointer (some p)] (.panicking ({ v:=Tj x,recovered:=false }::older)) w fun e u' w'=>e=.returned (.tuple #[])/\u'=.panicking ({ v:=Tj x,recovered:=true }::older)/\w'=w.setCell p (.int .i64 x):=by
 refine callsDIn_of_wpSIn func81 rfl trivial fun c₀ cs hu=>?_;apply wpSIn_seq;apply wpSIn_region;simp[wpOpsSIn,go_sem,recoverD,hu,ntmps81,Exit.thenS];refine wpSIn_of_wpIn rfl ?_;refine Go.wpIn_mono (Q:=fun e a' w'=>e=.normal/\a'.defers= []/\w'=w.setCell p (.int .i64 x)) ?_ ?_;rotate_left;·rintro e a' w' ⟨rfl,hd,rfl⟩;simp[bodyPostS,results,results81,hd]
 clear hu;have hta:=Ee x;simp only[Array.replicate_succ,Array.replicate_zero,List.push_toArray,List.append_toArray,List.nil_append,List.cons_append,List.setIfInBounds_toArray,List.set_cons_succ,List.set_cons_zero];gi_wp2
theorem kT(p:Addr)(w:World):
 CallsDIn Fence.wide n prog 81 #[.pointer (some p)] .returning w fun e u' w'=>e=.returned (.tuple #[])/\u'=.returning/\w'=w:=by
 refine callsDIn_of_wpSIn func81 rfl trivial fun c₀ cs hu=>?_;apply wpSIn_seq;apply wpSIn_region;simp[wpOpsSIn,go_sem,recoverD,hu,ntmps81,Exit.thenS];refine wpSIn_of_wpIn rfl ?_;refine Go.wpIn_mono (Q:=fun e a' w'=>e=.normal/\a'.defers= []/\w'=w) ?_ ?_;rotate_left;·rintro e a' w' ⟨rfl,hd,rfl⟩;cases c₀;simp_all[bodyPostS,results,results81,hd]
 clear hu;simp only[Array.replicate_succ,Array.replicate_zero,List.push_toArray,List.append_toArray,List.nil_append,List.cons_append,List.setIfInBounds_toArray,List.set_cons_succ,List.set_cons_zero];gi_wp2
theorem tK{a b:Int}(fa:fits a=true)(fb:fits b=true):fits (Int.gcd a b:Int)=true:=by
 by_cases hb:b=0;·subst hb;rw[Int.gcd_zero_right];exact jZ (by simp) fa
 have h:Int.gcd a b<=b.natAbs:=Nat.le_of_dvd (by omega) (Nat.gcd_dvd_right _ _);exact jZ (show((Int.gcd a b:Int)).natAbs<=b.natAbs by simpa using h) fb
theorem yG(h:fits z=true)(hl:(bG z).length=n):n<=2048:=by have:=of_decide_eq_true h;omega
theorem yH{va vb:Value}{a b:Int}(hM:b_ M w)(ha:ZV w M va a)(hb:ZV w M vb b)(fa:fits a=true)(fb:fits b=true):
 Calls prog 41 #[va,vb] w (ZR w M (Int.gcd a b)):=by
 refine wid ?_;obtain⟨A,n,c,rfl,hx⟩:=ha;obtain⟨B,m,d,rfl,hy⟩:=hb;have hf:=tK fa fb;have hn:=yG fa hx.eu;have hm:=yG fb hy.eu;obtain⟨W1,hW1,F1,hx2,hy2,hM2,SB⟩:=Ig hM hx hy;have X:=fB hx2 hy2 hM2;have F:=Hd F1;have HF:=Hd2 fa fb;have e0:=F1.a0;have e1:=F1.a1;have e2:=F1.b0;have e3:=F1.b1;have yU:=Hd SB;have Z:=Hd2 (nJ hf) (nK hf);have Ny:=Hd hf;clear hx hy hM hx2 hy2 hM2 F1 fa fb SB hf;refine qj func41 rfl ntmps41 ?_;gi_wp2_with (refine Cl 78 (iR _ 2 2 [a,b] _ yU.out (by simp[HF.out.1,HF.out.2])) ?_;rintro e w2 ⟨rfl,hb2⟩;have hb3:Below W1.heap.size W1 w2:=((Below.refl W1.heap.size W1).alloc (Nat.le_refl _) (.cells #[.bool (aG a),.slice A n c,.bool (aG b),.slice B m d] 28)).trans (hb2.mono (by simp));have F2:=F.out.go hb3;have v0:=ah F2.a0;have v1:=ah F2.a1;have v2:=ah F2.b0;have v3:=ah F2.b1;have G2:=Hd2 F2 hb3;clear hb2 hb3 F2)
 refine ak [] [0,1,2,3,4,5] (by kernel_rfl) (by kernel_rfl) ?_;refine eH ?_;refine aK ?_;refine lit ?_;gi_wp2;have G3:=h_ (show F4 w w2.drew (aG a) (aG b) (.slice A n c) (.slice B m d)from⟨G2.out.1.a0,G2.out.1.a1,G2.out.1.b0,G2.out.1.b1,G2.out.1.x0,G2.out.1.x1,G2.out.1.e0,G2.out.1.f0,G2.out.1.f1,G2.out.1.fe,G2.out.1.bl.drew,G2.out.1.sz⟩) ((X.out.1.go G2.out.2).keep (Keeps.refl _ _).drew) ((X.out.2.1.go G2.out.2).keep (Keeps.refl _ _).drew) (X.out.2.2.le (w':=w2.drew) G2.out.2.size);clear v0 v1 v2 v3 e0 e1 e2 e3;gi_loopg[6,7] (b.natAbs) (fun y s6 s7 wr=>∃(x:Nat) (A':Option Addr) (n' c':Nat) (B':Option Addr) (m' d':Nat),s6=.slice A' n' c'/\s7=.slice B' m' d'/\n'<=2048/\m'<=2048/\Hid (Nat.gcd x y=Int.gcd a b/\F4 w wr (aG a) (aG b) (.slice A n c) (.slice B m d)/\Sl Int wr ((w.heap.size+1+1)::(w.heap.size+1+1+1)::M) A' n' c' (ints (bC x))/\Sl Int wr ((w.heap.size+1+1)::(w.heap.size+1+1+1)::M) B' m' d' (ints (bC y))/\b_ ((w.heap.size+1+1)::(w.heap.size+1+1+1)::M) wr));case atStart=>exact⟨a.natAbs,A,n,c,B,m,d,rfl,rfl,hn,hm,rfl,G3.out⟩
 case round=>
  obtain⟨x,A',n',c',B',m',d',rfl,rfl,hn',hm',hr⟩:=hrel;have hm0:=hr.out.2.2.2.1.eu;by_cases h0:m'=0
  ·subst h0;have hy0:gk=0:=jO.1 (List.length_eq_zero_iff.1 hm0);subst hy0;have hg:gJ false x=(Int.gcd a b:Int):=by
    have:=hr.out.1;rw[Nat.gcd_zero_right]at this;rw[<-this];rfl
   clear hm0;gi_wp2_with (refine Cl 80 (yu (v:=x) hr.out.2.2.2.2 hr.out.2.2.1 hg Ny.out) ?_;rintro e w3 ⟨q,A4,n4,c4,rfl,Ie,hb3⟩;have G4:=Hd2 (hr.out.2.1.go hb3) Ie;have c0:=G4.out.1.x0;have c1:=G4.out.1.x1;have c2:=G4.out.1.e0;have d0:=G4.out.1.f0;have d1:=G4.out.1.f1;have d2:=G4.out.1.fe;clear hb3 Ie)
   obtain⟨wF,hwF,r0,r1,r2,WH,bF⟩:=G4.out.1.fin G4.out.2;refine leavesIn_cons (f:=77) (args:=#[.pointer (some ⟨w.heap.size+1+1+1,0,none⟩)]) (by simp) (by simp) (by simp[go_sem]) (fun _ _=>trivial) ?_;rw[hwF];refine(iJ ⟨w.heap.size+1+1+1,0,none⟩ _).mono ?_;rintro e u' w'' ⟨rfl,rfl,rfl⟩;refine⟨.tuple #[.agg #[.bool q,.slice A4 n4 c4],.int .i64 0],?_,.agg #[.bool q,.slice A4 n4 c4],by rw[Z.out.1],by rw[Z.out.2];exact WH,bF⟩;simp[results,results41,go_sem,r0,r1,r2]
  ·have hy0:0<gk:=by
     exact aeU
   have hpos:0<m':=by omega
   have HM0:=Hd hm0;clear hm0;gi_wp2_with (refine Cl 79 (L8 (x:=x) (y:=gk) hr.out.2.2.2.2 hr.out.2.2.1 hr.out.2.2.2.1 (by omega) hy0) ?_;rintro e w3 ⟨O,q,cO,O2,q2,Z7,rfl,h1,h2,hb3⟩;have G4:=Hd2 h2 hb3;clear h1 h2 hb3)
   exact adu
def QW(w:World)(M:List Nat)(v:Value)(r:Rt):Prop:=∃A n c B m d,v=.agg #[.bool (aG r.num),.slice A n c,.bool (aG r.den),.slice B m d]/\Sl Int w M A n c (ints (bG r.num))/\Sl Int w M B m d (ints (bG r.den))
theorem QW.go{w w':World}{M:List Nat}{v:Value}{r:Rt}(h:QW w M v r)(hb:Below w.heap.size w w'):QW w' M v r:=by exact ae4
structure F6(w W:World)(q1 q2:Bool)(v1 v2:Value):Prop where
 a0:W.cell? ⟨w.heap.size,0,none⟩=some (.bool q1)
 a1:W.cell? ⟨w.heap.size,1,none⟩=some v1
 a2:W.cell? ⟨w.heap.size,2,none⟩=some (.bool q2)
 a3:W.cell? ⟨w.heap.size,3,none⟩=some v2
 b0:W.cell? ⟨w.heap.size+1,0,none⟩=some (.bool false)
 b1:W.cell? ⟨w.heap.size+1,1,none⟩=some (.slice none 0 0)
 b2:W.cell? ⟨w.heap.size+1,2,none⟩=some (.bool false)
 b3:W.cell? ⟨w.heap.size+1,3,none⟩=some (.slice none 0 0)
 f0:W.frozen? ⟨w.heap.size+1,0,none⟩=false
 f1:W.frozen? ⟨w.heap.size+1,1,none⟩=false
 f2:W.frozen? ⟨w.heap.size+1,2,none⟩=false
 f3:W.frozen? ⟨w.heap.size+1,3,none⟩=false
 bl:Below w.heap.size w W
 sz:w.heap.size+2<=W.heap.size
theorem F6.go(h:F6 w W q1 q2 v1 v2)(hb:Below W.heap.size W W'):F6 w W' q1 q2 v1 v2:=by have hs:=h.sz;have c:∀(k o:Nat) (u:Value),k<w.heap.size+2->W.cell? ⟨k,o,none⟩=some u->W'.cell? ⟨k,o,none⟩=some u:=fun k o u hk hu=>(hb.cell (p:=⟨k,o,none⟩) (show k<_ by omega)).trans hu;have f:∀(k o:Nat),k<w.heap.size+2->W.frozen? ⟨k,o,none⟩=false->W'.frozen? ⟨k,o,none⟩=false:=fun k o hk hu=>(hb.frozen (p:=⟨k,o,none⟩) (show k<_ by omega)).trans hu;exact⟨c _ _ _ (by omega) h.a0,c _ _ _ (by omega) h.a1,c _ _ _ (by omega) h.a2,c _ _ _ (by omega) h.a3,c _ _ _ (by omega) h.b0,c _ _ _ (by omega) h.b1,c _ _ _ (by omega) h.b2,c _ _ _ (by omega) h.b3,f _ _ (by omega) h.f0,f _ _ (by omega) h.f1,f _ _ (by omega) h.f2,f _ _ (by omega) h.f3,h.bl.trans (hb.mono h.bl.size),by have:=hb.size;omega⟩
theorem F6.start(w:World)(q1 q2:Bool)(v1 v2:Value):
 F6 w ((w.alloc (.cells #[.bool q1,v1,.bool q2,v2] 134)).alloc (.cells #[.bool false,.slice none 0 0,.bool false,.slice none 0 0] 30)) q1 q2 v1 v2:=
 ⟨by simp[go_sem],by simp[go_sem],by simp[go_sem],by simp[go_sem],by simp[go_sem],by simp[go_sem],by simp[go_sem],by simp[go_sem],by simp[go_sem],by simp[go_sem],by simp[go_sem],by simp[go_sem],by exact bel,by simp⟩
theorem nN{b:Nat}{d:Nat}(h0:V.cell? ⟨b,0,none⟩=some u0)(h1:V.cell? ⟨b,1,none⟩=some u1)(h2:V.cell? ⟨b,2,none⟩=some u2)(h3:V.cell? ⟨b,3,none⟩=some u3)
 (hs:Sl Int V (b::M) A n c (ints (bG x.num))) (ht:Sl Int V (b::M) B m d (ints (bG x.den))) (hq:aG x.num=q) (hr:aG x.den=r) (hb:Below s w V) (hsb:s<=b):
 ∃wF,(((V.setCell ⟨b,0,none⟩ (.bool q)).setCell ⟨b,1,none⟩ (.slice A n c)).setCell ⟨b,2,none⟩ (.bool r)).setCell ⟨b,3,none⟩ (.slice B m d)=wF/\
  wF.cell? ⟨b,0,none⟩=some (.bool q)/\wF.cell? ⟨b,1,none⟩=some (.slice A n c)/\wF.cell? ⟨b,2,none⟩=some (.bool r)/\wF.cell? ⟨b,3,none⟩=some (.slice B m d)/\
  QW wF M (.agg #[.bool q,.slice A n c,.bool r,.slice B m d]) x/\Below s w wF:=by
 have kp:=(((((Keeps.refl (b::M) V).setCell (p:=⟨b,0,none⟩) (.inl (by simp)) (.bool q)).setCell (p:=⟨b,1,none⟩) (.inl (by simp)) (.slice A n c)).setCell (p:=⟨b,2,none⟩) (.inl (by simp)) (.bool r)).setCell (p:=⟨b,3,none⟩) (.inl (by simp)) (.slice B m d));refine⟨_,rfl,?_,?_,?_,?_,⟨A,n,c,B,m,d,by rw[hq,hr],(hs.keep kp).less (fun k hk=>List.mem_cons_of_mem _ hk),(ht.keep kp).less (fun k hk=>List.mem_cons_of_mem _ hk)⟩,?_⟩;·simp[go_sem,h0,h1,h2,h3]
 ·simp[go_sem,h0,h1,h2,h3]
 ·simp[go_sem,h0,h1,h2,h3]
 ·simp[go_sem,h0,h1,h2,h3]
 ·exact(((hb.setCell (p:=⟨b,0,none⟩) hsb _).setCell (p:=⟨b,1,none⟩) hsb _).setCell (p:=⟨b,2,none⟩) hsb _).setCell (p:=⟨b,3,none⟩) hsb _
theorem JA(hl:(bG z).length=n):aG (-z)=(!aG z&&decide (0<n)):=by subst hl;unfold aG;exact ad4
theorem tN(z:Int):bG (-z)=bG z:=by unfold bG;rw[Int.natAbs_neg]
theorem Mc{n:Int}(hg:(g:Int)∣n)(h0:0<g):aG (n/(g:Int))=aG n:=by
 obtain⟨a,rfl⟩:=hg;rw[Int.mul_ediv_cancel_left _ (by omega)];unfold aG;by_cases h:a<0;·have:=Int.mul_neg_of_pos_of_neg (show(0:Int)<g by omega) h;simp[h,this]
 have:=Int.mul_nonneg (show(0:Int)<=g by omega) (show 0<=a by omega);simp[h];omega
theorem QH{n:Int}(hg:(g:Int)∣n):n.natAbs% (g:Int).natAbs=0:=by rw[Int.natAbs_natCast];exact Nat.mod_eq_zero_of_dvd (Int.natAbs_dvd_natAbs.2 hg)
theorem aaP{c:Value}(h:(w.alloc (.cells #[a,b] e)).alloc (.cells #[c,d] f)=W):W.cell? ⟨w.heap.size,0,none⟩=some a:=by rw[<-h];simp[go_sem]
theorem aaQ{c:Value}(h:(w.alloc (.cells #[a,b] e)).alloc (.cells #[c,d] f)=W):W.cell? ⟨w.heap.size,1,none⟩=some b:=by rw[<-h];simp[go_sem]
theorem aaR{c:Value}(h:(w.alloc (.cells #[a,b] e)).alloc (.cells #[c,d] f)=W):W.frozen? ⟨w.heap.size,0,none⟩=false:=by rw[<-h];simp[go_sem]
theorem aaS{c:Value}(h:(w.alloc (.cells #[a,b] e)).alloc (.cells #[c,d] f)=W):W.frozen? ⟨w.heap.size,1,none⟩=false:=by rw[<-h];simp[go_sem]
set_option maxRecDepth 100000 in
theorem aaT{p:Prop}(h:p:=by
 refine ent func86 rfl ntmps86 ?_
 gi_wp2_with (first
  |(refine⟨trivial,?_⟩;gi_at_call 118;have g:=G4.out;clear g;have aaU:=(((G2.out.2.less (M':=(w.heap.size+1)::M) (fun k hk=>List.mem_cons_of_mem _ hk)).more (b:=w4.heap.size) G4.out.2.2.1.size).keep (Keeps.of_below (G4.out.2.2.1.trans (G4.out.2.2.2.mono G4.out.2.2.1.size)) _));refine Cn (L9 (a:=d) (b:=(g:Int)) (HB.out W5 w4.heap.size G4.out.1.bl G4.out.1.sz (by rw[<-CZ];simp;omega)) (HN.out.2 W5 w4.heap.size G4.out.1.bl (by have:=G4.out.2.2.1.size;have:=G2.out.1.sz;omega)) ⟨Ag,ng,cg,by rw[HY.out.2.2.1],aaU⟩ HF.out.2 HY.out.2.2.2.1 HGP.out HY.out.2.1) ?_;rintro e w6 ⟨u6,v6,rfl,⟨A6,n6,c6,rfl,hs6⟩,⟨A7,n7,c7,rfl,hs7⟩,hb6⟩;rw[HZ.out.2,show aG 0=false from rfl];have F6':=G4.out.1.go hb6;have hnc:w4.heap.size<W5.heap.size:=by rw[<-CZ];simp;omega
    first
     |(have z:_=false:=HZ.out.2;clear z;obtain⟨W7,XM⟩:=aC ((w6.alloc (.cells #[.bool false,.slice A6 n6 c6] 28)).alloc (.cells #[.bool false,.slice A7 n7 c7] 28)))
     |(obtain⟨W7,XM⟩:=aC ((w6.alloc (.cells #[.bool true,.slice A6 n6 c6] 28)).alloc (.cells #[.bool false,.slice A7 n7 c7] 28)))
    have hb7:Below w6.heap.size w6 W7:=by rw[<-XM];exact bel
    have F7:=F6'.go hb7;have hnd:w4.heap.size<w6.heap.size:=by have:=hb6.size;omega
    have m0:=(hb7.cell (p:=⟨w4.heap.size,0,none⟩) hnd).trans ((hb6.cell (p:=⟨w4.heap.size,0,none⟩) hnc).trans N0);have m1:=(hb7.cell (p:=⟨w4.heap.size,1,none⟩) hnd).trans ((hb6.cell (p:=⟨w4.heap.size,1,none⟩) hnc).trans N1);have m2:=(hb7.frozen (p:=⟨w4.heap.size,0,none⟩) hnd).trans ((hb6.frozen (p:=⟨w4.heap.size,0,none⟩) hnc).trans N2);have m3:=(hb7.frozen (p:=⟨w4.heap.size,1,none⟩) hnd).trans ((hb6.frozen (p:=⟨w4.heap.size,1,none⟩) hnc).trans N3);have l0:=aaP XM;have l1:=aaQ XM;have l2:=aaR XM;have l3:=aaS XM;have r0:=F7.b0;have r1:=F7.b1;have r2:=F7.b2;have r3:=F7.b3;have x0:=F7.f0;have x1:=F7.f1;have x2:=F7.f2;have x3:=F7.f3;have hnn:w.heap.size+1<w4.heap.size:=by have:=G2.out.1.sz;have:=G4.out.2.2.1.size;omega
    have ne1:¬w4.heap.size=w6.heap.size:=by omega
    have ne2:¬w6.heap.size=w4.heap.size:=by omega
    have ne3:¬w4.heap.size=w.heap.size+1:=by omega
    have ne4:¬w.heap.size+1=w4.heap.size:=by omega
    have ne5:¬w6.heap.size=w.heap.size+1:=by omega
    have ne6:¬w.heap.size+1=w6.heap.size:=by omega
    have G6:=Iw F6' hs6 hb6 hnc hb7 hnd hnn;clear hb7 F7 hnd hnn;clear hs6 hs7 hb6 F6' hnc aaU)
  |(refine⟨trivial,?_⟩;gi_at_call 118;have g:=G3.out;clear g;refine Cn (L9 (a:=n) (b:=(g:Int)) (HB.out W3 (w.heap.size+1) G3.out.1.bl G3.out.1.sz (by have:=G3.out.1.sz;omega)) (HN.out.1 W3 (w.heap.size+1) G3.out.1.bl (by omega)) ⟨Ag,ng,cg,by rw[HY.out.2.2.1],(G2.out.2.go G3.out.2.1).go G3.out.2.2⟩ HF.out.1 HY.out.2.2.2.1 HGP.out HY.out.1) ?_;rintro e w4 ⟨u4,v4,rfl,⟨A4,n4,c4,rfl,hs4⟩,⟨A5,n5,c5,rfl,hs5⟩,hb4⟩;rw[HZ.out.1,show aG 0=false from rfl];have F4:=G3.out.1.go hb4
    first
     |(have z:_=false:=HZ.out.1;clear z;obtain⟨W5,CZ⟩:=aC ((w4.alloc (.cells #[.bool false,.slice A4 n4 c4] 28)).alloc (.cells #[.bool false,.slice A5 n5 c5] 28)))
     |(obtain⟨W5,CZ⟩:=aC ((w4.alloc (.cells #[.bool true,.slice A4 n4 c4] 28)).alloc (.cells #[.bool false,.slice A5 n5 c5] 28)))
    have hb5:Below w4.heap.size w4 W5:=by rw[<-CZ];exact bel
    have F5:=F4.go hb5;have s3:=G3.out.2.2.size;have hgc:w3.heap.size<W3.heap.size:=by rw[<-hW3];simp
    have g0':=(hb5.cell (p:=⟨w3.heap.size,0,none⟩) (by have:=hb4.size;show w3.heap.size<_;omega)).trans ((hb4.cell (p:=⟨w3.heap.size,0,none⟩) hgc).trans g0);have g1':=(hb5.cell (p:=⟨w3.heap.size,1,none⟩) (by have:=hb4.size;show w3.heap.size<_;omega)).trans ((hb4.cell (p:=⟨w3.heap.size,1,none⟩) hgc).trans g1);have p0:=F5.a0;have p1:=F5.a1;have p2:=F5.a2;have p3:=F5.a3;have N0:=aaP CZ;have N1:=aaQ CZ;have N2:=aaR CZ;have N3:=aaS CZ;have G4:=h_ F5 hs4 ((G3.out.2.1.trans (G3.out.2.2.mono G3.out.2.1.size)).trans (hb4.mono (by have:=G3.out.2.1.size;omega))) hb5;clear hs4 hs5 hb4 F4 F5 hb5 s3 hgc)
  |(refine Cl 84 (Ei (z:=(g:Int)) ⟨Ag,ng,cg,by rw[HY.out.2.2.1],G2.out.2⟩) ?_;rintro e w3 ⟨rfl,-,hb3⟩;have F3:=G2.out.1.go hb3;obtain⟨W3,hW3⟩:=aC (w3.alloc (.cells #[.bool false,.slice Ag ng cg] 28));have Zf:Below w3.heap.size w3 W3:=by rw[<-hW3];exact bel
    have F33:=F3.go Zf;have g0:W3.cell? ⟨w3.heap.size,0,none⟩=some (.bool false):=by rw[<-hW3];simp[go_sem]
    have g1:W3.cell? ⟨w3.heap.size,1,none⟩=some (.slice Ag ng cg):=by rw[<-hW3];simp[go_sem]
    have u0:=F33.a0;have u1:=F33.a1;have u2:=F33.a2;have u3:=F33.a3;have G3:=fB F33 hb3 Zf;clear hb3 F3 Zf F33)
  |(refine Cl 41 (yH (a:=n) (b:=d) (HB.out W1 (w.heap.size+1) F.out.bl F.out.sz (by have:=F.out.sz;omega)) (HN.out.1 W1 _ F.out.bl (by omega)) (HN.out.2 W1 _ F.out.bl (by omega)) HF.out.1 HF.out.2) ?_;rintro e w2 ⟨u2,rfl,hz2,hb2⟩;rw[HGE.out,HG.out.1];rw[HGE.out,HG.out.2]at hz2;obtain⟨Ag,ng,cg,rfl,hs2⟩:=hz2;rw[HY.out.2.2.1];have G2:=Hd2 (F.out.go hb2) hs2;clear hs2 hb2)
  |fail)
 obtain⟨F6',hs6,hb6,hnc,hb7,hnd,hnn⟩:=G6.out;have b7:Below w.heap.size w W7:=F6'.bl.trans (hb7.mono F6'.bl.size);have abV:Below w4.heap.size w4 w6:=G4.out.2.2.2.trans (hb6.mono (Nat.le_of_lt hnc));have hl4:=G4.out.2.1.eu;have kV0:Keeps (w6.heap.size::w4.heap.size::(w.heap.size+1)::M) w6 W7:=Keeps.of_below hb7 _
 have fin:∀(V:World) (x:Rt) (q:Bool),Keeps (w6.heap.size::w4.heap.size::(w.heap.size+1)::M) w6 V->Below w.heap.size w V->(V.cell? ⟨w.heap.size+1,0,none⟩=some (.bool false)/\V.cell? ⟨w.heap.size+1,1,none⟩=some (.slice none 0 0)/\V.cell? ⟨w.heap.size+1,2,none⟩=some (.bool false)/\V.cell? ⟨w.heap.size+1,3,none⟩=some (.slice none 0 0))->
  eP n d=x->aG x.num=q->aG x.den=false->bG x.num=bG (n/(g:Int))->bG x.den=bG (d/(g:Int))->
  ∃wF,(((V.setCell ⟨w.heap.size+1,0,none⟩ (.bool q)).setCell ⟨w.heap.size+1,1,none⟩ (.slice A4 n4 c4)).setCell ⟨w.heap.size+1,2,none⟩ (.bool false)).setCell ⟨w.heap.size+1,3,none⟩ (.slice A6 n6 c6)=wF/\
   wF.cell? ⟨w.heap.size+1,0,none⟩=some (.bool q)/\wF.cell? ⟨w.heap.size+1,1,none⟩=some (.slice A4 n4 c4)/\wF.cell? ⟨w.heap.size+1,2,none⟩=some (.bool false)/\wF.cell? ⟨w.heap.size+1,3,none⟩=some (.slice A6 n6 c6)/\
   QW wF M (.agg #[.bool q,.slice A4 n4 c4,.bool false,.slice A6 n6 c6]) (eP n d)/\Below w.heap.size w wF:=by
  intro V x q kV bV ⟨v0,v1,v2,v3⟩ hx sg1 sg2 mg1 mg2;have hA:=(((((G4.out.2.1.less (M':=(w.heap.size+1)::M) (fun k hk=>List.mem_cons_of_mem _ hk)).more (b:=w4.heap.size) (Nat.le_refl _)).keep (Keeps.of_below abV _)).more (b:=w6.heap.size) (Nat.le_refl _)).keep kV).less (M':=(w.heap.size+1)::M) (fun k hk=>List.mem_cons_of_mem _ (List.mem_cons_of_mem _ hk));have hB:=((hs6.more (b:=w6.heap.size) (Nat.le_refl _)).keep kV).less (M':=(w.heap.size+1)::M) (fun k hk=>List.mem_cons_of_mem _ (List.mem_cons_of_mem _ hk));rw[<-mg1]at hA;rw[<-mg2]at hB;rw[hx];exact nN v0 v1 v2 v3 hA hB sg1 sg2 bV (Nat.le_succ _)
 have low:eP n d=if d/(g:Int)<0 then⟨-(n/(g:Int)),-(d/(g:Int))⟩else⟨n/(g:Int),d/(g:Int)⟩:=HY.out.2.2.2.2
 have bN:∀x,Below w.heap.size w ((W7.setCell ⟨w6.heap.size,0,none⟩ (.bool false)).setCell ⟨w4.heap.size,0,none⟩ (.bool x)):=fun x=>(b7.setCell (p:=⟨w6.heap.size,0,none⟩) (by simp;omega) _).setCell (p:=⟨w4.heap.size,0,none⟩) (by simp;omega) _;have kN:∀x,Keeps (w6.heap.size::w4.heap.size::(w.heap.size+1)::M) w6 ((W7.setCell ⟨w6.heap.size,0,none⟩ (.bool false)).setCell ⟨w4.heap.size,0,none⟩ (.bool x)):=fun x=>(kV0.setCell (p:=⟨w6.heap.size,0,none⟩) (.inl (by simp)) _).setCell (p:=⟨w4.heap.size,0,none⟩) (.inl (by simp)) _;have cN:∀x k v,k<4->W7.cell? ⟨w.heap.size+1,k,none⟩=some v->((W7.setCell ⟨w6.heap.size,0,none⟩ (.bool false)).setCell ⟨w4.heap.size,0,none⟩ (.bool x)).cell? ⟨w.heap.size+1,k,none⟩=some v:=fun x k v _ h=>by simp[go_sem,h,ne1,ne2,ne3,ne4,ne5,ne6]
 first
  |(have z:_=false:=HZ.out.2;have zd:=z;unfold aG at zd;obtain⟨wF,hwF,t0,t1,t2,t3,hQ,bF⟩:=fin W7 _ _ kV0 b7 ⟨r0,r1,r2,r3⟩ (low.trans (if_neg (of_decide_eq_false zd))) HZ.out.1 z rfl rfl;rw[hwF];exact⟨rfl,_,by simp[results,go_sem,t0,t1,t2,t3];rfl,_,rfl,by exact hQ,bF⟩)
  |(have z:_=true:=HZ.out.2;have zd:=z;unfold aG at zd;have sg:∀q,(!aG (n/(g:Int))&&decide (0<n4))=q->aG (-(n/(g:Int)))=q:=fun q hq=>by rw[JA hl4];exact hq
    have sd:aG (-(d/(g:Int)))=false:=by rw[JA rfl,z];rfl
    first
     |(have z1:_=false:=HZ.out.1;obtain⟨wF,hwF,t0,t1,t2,t3,hQ,bF⟩:=fin _ _ (decide (0<n4)) (kN (decide (0<n4))) (bN _) ⟨cN _ 0 _ (by omega) r0,cN _ 1 _ (by omega) r1,cN _ 2 _ (by omega) r2,cN _ 3 _ (by omega) r3⟩ (low.trans (if_pos (of_decide_eq_true zd))) (sg _ (by rw[z1];rfl)) sd (tN _) (tN _);rw[hwF];exact⟨rfl,_,by simp[results,go_sem,t0,t1,t2,t3];rfl,_,rfl,by exact hQ,bF⟩)
     |(have z1:_=true:=HZ.out.1;obtain⟨wF,hwF,t0,t1,t2,t3,hQ,bF⟩:=fin _ _ false (kN false) (bN _) ⟨cN _ 0 _ (by omega) r0,cN _ 1 _ (by omega) r1,cN _ 2 _ (by omega) r2,cN _ 3 _ (by omega) r3⟩ (low.trans (if_pos (of_decide_eq_true zd))) (sg _ (by rw[z1];rfl)) sd (tN _) (tN _);rw[hwF];exact⟨rfl,_,by simp[results,go_sem,t0,t1,t2,t3];rfl,_,rfl,by exact hQ,bF⟩))):p:=h
theorem Ej{k1 c1 k2 c2:Nat}{n d:Int}(hM:b_ M w)(hx:Sl Int w M A k1 c1 (ints (bG n)))(hy:Sl Int w M B k2 c2 (ints (bG d)))(fn:fits n=true)(fd:fits d=true)(h0:d≠0):
 Calls prog 86 #[.agg #[.bool (aG n),.slice A k1 c1,.bool (aG d),.slice B k2 c2]] w fun e w'=>∃u,e=.returned u/\QW w' M u (eP n d)/\Below w.heap.size w w':=by
 refine wid ?_;have Z8:0<Int.gcd n d:=Int.gcd_pos_iff.2 (.inr h0);have hd1:(Int.gcd n d:Int)∣n:=Int.gcd_dvd_left ..;have hd2:(Int.gcd n d:Int)∣d:=Int.gcd_dvd_right ..;have z1:=Mc hd1 Z8;have z2:=Mc hd2 Z8;have y1:=QH hd1;have y2:=QH hd2;have z3:aG (Int.gcd n d:Int)=false:=decide_eq_false (by omega);have hgf:=tK fn fd;have hlow:eP n d=if d/(Int.gcd n d:Int)<0 then⟨-(n/(Int.gcd n d:Int)),-(d/(Int.gcd n d:Int))⟩else⟨n/(Int.gcd n d:Int),d/(Int.gcd n d:Int)⟩:=rfl
 generalize hge:Int.gcd n d=g at*
 have HGE:=Hd hge;have HG:=Hd2 (nJ hgf) (nK hgf);have HY:=Hd5 y1 y2 z3 hgf hlow;have HGP:=Hd (show(0:Int)<(g:Int) by omega);have HF:=Hd2 fn fd;obtain⟨q1,hq1⟩:=aC (aG n);obtain⟨q2,hq2⟩:=aC (aG d);rw[hq1]at z1;rw[hq2]at z2;rw[hq1,hq2];have HZ:=Hd2 z1 z2;have X:=Hd5 hx hy hM hq1 hq2;obtain⟨W1,hW1⟩:=aC ((w.alloc (.cells #[.bool q1,.slice A k1 c1,.bool q2,.slice B k2 c2] 134)).alloc (.cells #[.bool false,.slice none 0 0,.bool false,.slice none 0 0] 30));have F1:F6 w W1 q1 q2 (.slice A k1 c1) (.slice B k2 c2):=by rw[<-hW1];exact F6.start w _ _ _ _
 have F:=Hd F1;have e0:=F1.a0;have e1:=F1.a1;have e2:=F1.a2;have e3:=F1.a3;have hn:∀(W:World) (b:Nat),Below w.heap.size w W->w.heap.size<=b->ZV W (b::(w.heap.size+1)::M) (.agg #[.bool q1,.slice A k1 c1]) n:=fun W b hb hle=>⟨A,k1,c1,by rw[hq1],(((hx.more (b:=w.heap.size+1) (by omega)).more (b:=b) hle).keep (Keeps.of_below hb _))⟩;have hd:∀(W:World) (b:Nat),Below w.heap.size w W->w.heap.size<=b->ZV W (b::(w.heap.size+1)::M) (.agg #[.bool q2,.slice B k2 c2]) d:=fun W b hb hle=>⟨B,k2,c2,by rw[hq2],(((hy.more (b:=w.heap.size+1) (by omega)).more (b:=b) hle).keep (Keeps.of_below hb _))⟩;have HN:=Hd2 hn hd;have hB:∀(W:World) (b:Nat),Below w.heap.size w W->w.heap.size+2<=W.heap.size->b<W.heap.size->b_ (b::(w.heap.size+1)::M) W:=by
  intro W b hb hs hle k hk;simp only[List.mem_cons]at hk;rcases hk with rfl|rfl|hk;·exact hle
  ·omega
  have:=hM k hk;omega
 have HB:=Hd hB;clear hx hy hM F1 fn fd hq1 hq2 hgf z1 z2 z3 y1 y2 hlow hd1 hd2 Z8 hn hd hB hge;clear h0;cases q1<;>cases q2<;>exact aaT
structure Bx(w W:World)(q1 q2:Bool)(v1 v2:Value):Prop where
 a0:W.cell? ⟨w.heap.size,0,none⟩=some (.bool q1)
 a1:W.cell? ⟨w.heap.size,1,none⟩=some v1
 a2:W.cell? ⟨w.heap.size,2,none⟩=some (.bool q2)
 a3:W.cell? ⟨w.heap.size,3,none⟩=some v2
 bl:Below w.heap.size w W
 sz:w.heap.size+1<=W.heap.size
theorem Bx.go(h:Bx w W q1 q2 v1 v2)(hb:Below W.heap.size W W'):Bx w W' q1 q2 v1 v2:=by have hs:=h.sz;have c:∀(o:Nat) (u:Value),W.cell? ⟨w.heap.size,o,none⟩=some u->W'.cell? ⟨w.heap.size,o,none⟩=some u:=fun o u hu=>(hb.cell (p:=⟨w.heap.size,o,none⟩) (show w.heap.size<_ by omega)).trans hu;exact⟨c _ _ h.a0,c _ _ h.a1,c _ _ h.a2,c _ _ h.a3,h.bl.trans (hb.mono h.bl.size),by have:=hb.size;omega⟩
theorem Bx.start(w:World)(q1 q2:Bool)(v1 v2:Value):Bx w (w.alloc (.cells #[.bool q1,v1,.bool q2,v2] 30)) q1 q2 v1 v2:=⟨by simp[go_sem],by simp[go_sem],by simp[go_sem],by simp[go_sem],by exact bel,by simp⟩
def qM(b:Bool):Int:=if b then 0 else 100
theorem QI(h:Sl Int w M A n c (ints (bC g)))(h1:n=1):∃(b o d:Nat),A=some ⟨b,o,none⟩/\w.cell? ⟨b,o,none⟩=some (.int .i64 (d:Int))/\d=g:=by
 obtain⟨b,o,d,rfl,hc,-,hd,-⟩:=h.mG (aO g) (k:=0) (by omega);have hl:=h.eu;rw[h1]at hl;refine⟨b,o,d,rfl,hc,?_⟩;have e:bC g= [d]:=by
  match hg:bC g,hl,hd with
  | [x],_,hd=>exact congrArg (fun y=> [y]) (Option.some.inj hd)
 rw[<-bI g,e];simp[val]
theorem Em{d:Nat}(hM:b_ M w)(hx:Sl Int w M A n c l1)(hy:Sl Int w M B m d l2):
 CB 23 #[.agg #[.bool p,.slice A n c,.bool q,.slice B m d]] (.int .i64 (qM (dF ((p,l1),(q,l2))))) w:=by
 refine wid ?_;obtain⟨W1,hW1⟩:=aC (w.alloc (.cells #[.bool p,.slice A n c,.bool q,.slice B m d] 30));have F1:Bx w W1 p q (.slice A n c) (.slice B m d):=by rw[<-hW1];exact Bx.start w _ _ _ _
 have F:=Hd F1;have e0:=F1.a0;have e1:=F1.a1;have e2:=F1.a2;have e3:=F1.a3;have X:=fB hx hy hM;clear hx hy hM F1;by_cases hk1:gZ (p,l1)=true
 ·have Dx:=Hd (show rJ (gZ (p,l1))=0 by rw[hk1];rfl);by_cases hk2:gZ (q,l2)=true
  ·have EX:=Hd (show rJ (gZ (q,l2))=0 by rw[hk2];rfl);obtain⟨z1,YL,Zg⟩:=(nU _).1 hk1;obtain⟨z2,YM,Zh⟩:=(nU _).1 hk2;have ep:aG z1=p:=(congrArg Prod.fst YL).symm;have eq:aG z2=q:=(congrArg Prod.fst YM).symm;have el1:ints (bG z1)=l1:=(congrArg Prod.snd YL).symm;have el2:ints (bG z2)=l2:=(congrArg Prod.snd YM).symm;have hd1:DT (p,l1)=z1:=by rw[YL,nG]
   have hd2:DT (q,l2)=z2:=by rw[YM,nG]
   have hgf:=tK Zg Zh;have HG:=Hd2 (nJ hgf) (nK hgf);have XO:=Hd2 Zg Zh;have HE:=h_ ep eq el1 el2;have HD:=Hd2 hd1 hd2;have WL:dF ((p,l1),(q,l2))=(decide (0<z2)&&decide (Int.gcd z1 z2=1)):=by simp[dF,hk1,hk2,hd1,hd2]
   have Z9:=Hd WL;clear WL Zg Zh hgf YL YM ep eq el1 el2 hd1 hd2;by_cases hp:0<z2
   ·have HP:=Hd (show decide (0<z2)=true from decide_eq_true hp);have HL0:=Hd (show bG (Int.gcd z1 z2:Int)=bC (Int.gcd z1 z2) by simp[bG]);by_cases hg1:Int.gcd z1 z2=1
    ·have HR:=Hd (show qM (dF ((p,l1),(q,l2)))=0 by rw[Z9.out,HP.out,hg1];rfl);have HL:=Hd (show(bG (Int.gcd z1 z2:Int)).length=1 by rw[HL0.out,hg1,iP (by omega),show 1/BB=0 from rfl,bU];rfl);have Z4:=Hd hg1;clear hg1;refine ent func23 rfl ntmps23 ?_
     gi_wp2_with (first
      |(refine Cl 40 (nM (z:=z2) (M:=M) ⟨B,m,d,by rw[HE.out.2.1],by rw[HE.out.2.2.2];exact((X.out.2.1.go F.out.bl).go G2.out.2).go G3.out.2⟩) ?_;rintro e w4 ⟨rfl,hb4⟩;rw[HP.out];have F4:=G3.out.1.go hb4;have o0:=F4.a0;have o1:=F4.a1;have o2:=F4.a2;have o3:=F4.a3;have G4:=Hd2 F4 hb4;clear F4 hb4)
      |(refine⟨trivial,?_⟩;gi_at_call 39;have g:=G2.out;clear g;refine Cn (eF B m d q l2 _ ((X.out.2.1.go F.out.bl).go G2.out.2)) ?_;rintro e w3 ⟨rfl,hb3⟩;rw[EX.out];have F3:=G2.out.1.go hb3;have y0:=F3.a0;have y1:=F3.a1;have y2:=F3.a2;have y3:=F3.a3;have G3:=Hd2 F3 hb3;clear hb3 F3)
      |(refine Cl 39 (eF A n c p l1 _ (X.out.1.go F.out.bl)) ?_;rintro e w2 ⟨rfl,hb2⟩;rw[Dx.out];have F2:=F.out.go hb2;have u0:=F2.a0;have u1:=F2.a1;have u2:=F2.a2;have u3:=F2.a3;have G2:=Hd2 F2 hb2;clear F2 hb2)
      |(refine Cl 41 (yH (a:=z1) (b:=z2) (fun k hk=>Nat.lt_of_lt_of_le (X.out.2.2 k hk) G4.out.1.bl.size) ⟨A,n,c,by rw[HE.out.1],by rw[HE.out.2.2.1];exact X.out.1.go G4.out.1.bl⟩ ⟨B,m,d,by rw[HE.out.2.1],by rw[HE.out.2.2.2];exact X.out.2.1.go G4.out.1.bl⟩ XO.out.1 XO.out.2) ?_;rintro e w5 ⟨u5,rfl,r_,hb5⟩;rw[HG.out.1];rw[HG.out.2]at r_;obtain⟨Ag,ng,cg,rfl,hs5⟩:=r_;rw[show aG (Int.gcd z1 z2:Int)=false from decide_eq_false (by omega)];have Sm:ng=1:=by rw[<-hs5.eu];exact HL.out
        obtain⟨bg,og,dg,rfl,hcg,hdg⟩:=QI (g:=Int.gcd z1 z2) (by have h:=hs5;rw[HL0.out]at h;exact h) Sm;subst Sm;have abW:(w5.alloc (.cells #[.bool false,.slice (some ⟨bg,og,none⟩) 1 cg] 28)).cell? ⟨bg,og,none⟩=some (.int .i64 (dg:Int)):=(((Below.refl w5.heap.size w5).alloc (Nat.le_refl _) _).cell (World.block_lt_of_cell? w5 _ hcg)).trans hcg;obtain rfl:dg=1:=hdg.trans Z4.out;clear hdg hs5;have G5:=Hd (G4.out.1.go hb5);clear hb5))
     exact aez
    have HR:=Hd (show qM (dF ((p,l1),(q,l2)))=100 by rw[Z9.out,HP.out,decide_eq_false hg1];rfl);by_cases hL:(bG (Int.gcd z1 z2:Int)).length=1
    ·have HL:=Hd hL;have Z4:=Hd hg1;clear hg1 hL;refine ent func23 rfl ntmps23 ?_
     gi_wp2_with (first
      |(refine Cl 40 (nM (z:=z2) (M:=M) ⟨B,m,d,by rw[HE.out.2.1],by rw[HE.out.2.2.2];exact((X.out.2.1.go F.out.bl).go G2.out.2).go G3.out.2⟩) ?_;rintro e w4 ⟨rfl,hb4⟩;rw[HP.out];have F4:=G3.out.1.go hb4;have o0:=F4.a0;have o1:=F4.a1;have o2:=F4.a2;have o3:=F4.a3;have G4:=Hd2 F4 hb4;clear F4 hb4)
      |(refine⟨trivial,?_⟩;gi_at_call 39;have g:=G2.out;clear g;refine Cn (eF B m d q l2 _ ((X.out.2.1.go F.out.bl).go G2.out.2)) ?_;rintro e w3 ⟨rfl,hb3⟩;rw[EX.out];have F3:=G2.out.1.go hb3;have y0:=F3.a0;have y1:=F3.a1;have y2:=F3.a2;have y3:=F3.a3;have G3:=Hd2 F3 hb3;clear hb3 F3)
      |(refine Cl 39 (eF A n c p l1 _ (X.out.1.go F.out.bl)) ?_;rintro e w2 ⟨rfl,hb2⟩;rw[Dx.out];have F2:=F.out.go hb2;have u0:=F2.a0;have u1:=F2.a1;have u2:=F2.a2;have u3:=F2.a3;have G2:=Hd2 F2 hb2;clear F2 hb2)
      |(refine Cl 41 (yH (a:=z1) (b:=z2) (fun k hk=>Nat.lt_of_lt_of_le (X.out.2.2 k hk) G4.out.1.bl.size) ⟨A,n,c,by rw[HE.out.1],by rw[HE.out.2.2.1];exact X.out.1.go G4.out.1.bl⟩ ⟨B,m,d,by rw[HE.out.2.1],by rw[HE.out.2.2.2];exact X.out.2.1.go G4.out.1.bl⟩ XO.out.1 XO.out.2) ?_;rintro e w5 ⟨u5,rfl,r_,hb5⟩;rw[HG.out.1];rw[HG.out.2]at r_;obtain⟨Ag,ng,cg,rfl,hs5⟩:=r_;rw[show aG (Int.gcd z1 z2:Int)=false from decide_eq_false (by omega)];have Sm:ng=1:=by rw[<-hs5.eu];exact HL.out
        obtain⟨bg,og,dg,rfl,hcg,hdg⟩:=QI (g:=Int.gcd z1 z2) (by have h:=hs5;rw[HL0.out]at h;exact h) Sm;subst Sm;have abW:(w5.alloc (.cells #[.bool false,.slice (some ⟨bg,og,none⟩) 1 cg] 28)).cell? ⟨bg,og,none⟩=some (.int .i64 (dg:Int)):=(((Below.refl w5.heap.size w5).alloc (Nat.le_refl _) _).cell (World.block_lt_of_cell? w5 _ hcg)).trans hcg;have hdx:¬dg=1:=fun e=>Z4.out (hdg.symm.trans e);clear hdg hs5;have G5:=Hd (G4.out.1.go hb5);clear hb5))
     exact aez
    have HL:=Hd hL;clear hg1 hL;refine ent func23 rfl ntmps23 ?_
    gi_wp2_with (first
     |(refine Cl 40 (nM (z:=z2) (M:=M) ⟨B,m,d,by rw[HE.out.2.1],by rw[HE.out.2.2.2];exact((X.out.2.1.go F.out.bl).go G2.out.2).go G3.out.2⟩) ?_;rintro e w4 ⟨rfl,hb4⟩;rw[HP.out];have F4:=G3.out.1.go hb4;have o0:=F4.a0;have o1:=F4.a1;have o2:=F4.a2;have o3:=F4.a3;have G4:=Hd2 F4 hb4;clear F4 hb4)
     |(refine⟨trivial,?_⟩;gi_at_call 39;have g:=G2.out;clear g;refine Cn (eF B m d q l2 _ ((X.out.2.1.go F.out.bl).go G2.out.2)) ?_;rintro e w3 ⟨rfl,hb3⟩;rw[EX.out];have F3:=G2.out.1.go hb3;have y0:=F3.a0;have y1:=F3.a1;have y2:=F3.a2;have y3:=F3.a3;have G3:=Hd2 F3 hb3;clear hb3 F3)
     |(refine Cl 39 (eF A n c p l1 _ (X.out.1.go F.out.bl)) ?_;rintro e w2 ⟨rfl,hb2⟩;rw[Dx.out];have F2:=F.out.go hb2;have u0:=F2.a0;have u1:=F2.a1;have u2:=F2.a2;have u3:=F2.a3;have G2:=Hd2 F2 hb2;clear F2 hb2)
     |(refine Cl 41 (yH (a:=z1) (b:=z2) (fun k hk=>Nat.lt_of_lt_of_le (X.out.2.2 k hk) G4.out.1.bl.size) ⟨A,n,c,by rw[HE.out.1],by rw[HE.out.2.2.1];exact X.out.1.go G4.out.1.bl⟩ ⟨B,m,d,by rw[HE.out.2.1],by rw[HE.out.2.2.2];exact X.out.2.1.go G4.out.1.bl⟩ XO.out.1 XO.out.2) ?_;rintro e w5 ⟨u5,rfl,r_,hb5⟩;rw[HG.out.1];rw[HG.out.2]at r_;obtain⟨Ag,ng,cg,rfl,hs5⟩:=r_;rw[show aG (Int.gcd z1 z2:Int)=false from decide_eq_false (by omega)];have Sm:¬ng=1:=fun e=>HL.out (by rw[hs5.eu,e]);clear hs5;have G5:=Hd (G4.out.1.go hb5);clear hb5))
    exact aez
   have HP:=Hd (show decide (0<z2)=false from decide_eq_false hp);have HR:=Hd (show qM (dF ((p,l1),(q,l2)))=100 by rw[Z9.out,HP.out];rfl);refine ent func23 rfl ntmps23 ?_
   gi_wp2_with (first
    |(refine Cl 40 (nM (z:=z2) (M:=M) ⟨B,m,d,by rw[HE.out.2.1],by rw[HE.out.2.2.2];exact((X.out.2.1.go F.out.bl).go G2.out.2).go G3.out.2⟩) ?_;rintro e w4 ⟨rfl,hb4⟩;rw[HP.out];have F4:=G3.out.1.go hb4;have o0:=F4.a0;have o1:=F4.a1;have o2:=F4.a2;have o3:=F4.a3;have G4:=Hd2 F4 hb4;clear F4 hb4)
    |(refine⟨trivial,?_⟩;gi_at_call 39;have g:=G2.out;clear g;refine Cn (eF B m d q l2 _ ((X.out.2.1.go F.out.bl).go G2.out.2)) ?_;rintro e w3 ⟨rfl,hb3⟩;rw[EX.out];have F3:=G2.out.1.go hb3;have y0:=F3.a0;have y1:=F3.a1;have y2:=F3.a2;have y3:=F3.a3;have G3:=Hd2 F3 hb3;clear hb3 F3)
    |(refine Cl 39 (eF A n c p l1 _ (X.out.1.go F.out.bl)) ?_;rintro e w2 ⟨rfl,hb2⟩;rw[Dx.out];have F2:=F.out.go hb2;have u0:=F2.a0;have u1:=F2.a1;have u2:=F2.a2;have u3:=F2.a3;have G2:=Hd2 F2 hb2;clear F2 hb2)
    |(refine⟨trivial,?_⟩))
   go_ret;exact⟨by rw[HR.out];rfl,G4.out.1.bl⟩
  have EX:=Hd (show rJ (gZ (q,l2))=90 by simp[hk2,rJ]);have HR:=Hd (show qM (dF ((p,l1),(q,l2)))=100 by simp[dF,hk2,qM]);refine ent func23 rfl ntmps23 ?_
  gi_wp2_with (first
   |(refine⟨trivial,?_⟩;gi_at_call 39;have g:=G2.out;clear g;refine Cn (eF B m d q l2 _ ((X.out.2.1.go F.out.bl).go G2.out.2)) ?_;rintro e w3 ⟨rfl,hb3⟩;rw[EX.out];have G3:=Hd (G2.out.1.go hb3);clear hb3)
   |(refine Cl 39 (eF A n c p l1 _ (X.out.1.go F.out.bl)) ?_;rintro e w2 ⟨rfl,hb2⟩;rw[Dx.out];have F2:=F.out.go hb2;have u0:=F2.a0;have u1:=F2.a1;have u2:=F2.a2;have u3:=F2.a3;have G2:=Hd2 F2 hb2;clear F2 hb2)
   |(refine⟨trivial,?_⟩))
  go_ret;exact⟨by rw[HR.out];rfl,G3.out.bl⟩
 ·have Dx:=Hd (show rJ (gZ (p,l1))=90 by simp[hk1,rJ]);have HR:=Hd (show qM (dF ((p,l1),(q,l2)))=100 by simp[dF,hk1,qM]);refine ent func23 rfl ntmps23 ?_
  gi_wp2_with (first
   |(refine Cl 39 (eF A n c p l1 _ (X.out.1.go F.out.bl)) ?_;rintro e w2 ⟨rfl,hb2⟩;rw[Dx.out];have F2:=F.out.go hb2;have u0:=F2.a0;have u1:=F2.a1;have u2:=F2.a2;have u3:=F2.a3;have G2:=Hd2 F2 hb2;clear F2 hb2)
   |(refine⟨trivial,?_⟩))
  go_ret;exact⟨by rw[HR.out];rfl,G2.out.1.bl⟩
theorem Sl.TY{xs:List RatR}(h:Sl RatR w M A n c xs){k:Nat}(hk:xs[k]?=some ((p,l1),(q,l2))):
 ∃b o A1 n1 c1 A2 n2 c2,A=some ⟨b,o,none⟩/\w.cell? ⟨b,o+k*4,none⟩=some (.bool p)/\w.cell? ⟨b,o+k*4+1,none⟩=some (.slice A1 n1 c1)/\w.cell? ⟨b,o+k*4+2,none⟩=some (.bool q)/\w.cell? ⟨b,o+k*4+3,none⟩=some (.slice A2 n2 c2)/\Sl Int w M A1 n1 c1 l1/\Sl Int w M A2 n2 c2 l2:=by
 obtain⟨b,o,es,rfl,h1,h2⟩:=h.get hk;obtain⟨ds,fs,rfl,⟨ds1,fs1,rfl,h3,A1,n1,c1,rfl,h4⟩,⟨ds2,fs2,rfl,h5,A2,n2,c2,rfl,h6⟩⟩:=h1;have h3:ds1= [.bool p]:=h3;have h5:ds2= [.bool q]:=h5;subst h3;subst h5;refine⟨b,o,A1,n1,c1,A2,n2,c2,rfl,?_,?_,?_,?_,h4,h6⟩;·have:=h2.2 0 (.bool p) rfl;exact this
 ·have:=h2.2 1 (.slice A1 n1 c1) rfl;exact this
 ·have:=h2.2 2 (.bool q) rfl;exact this
 ·have:=h2.2 3 (.slice A2 n2 c2) rfl;exact this
theorem Tv{r:Rt}(h:r.ok):dF (jd r)=true:=(zx _).2 ⟨r,h,rfl⟩
theorem uO(A:Option Addr)(n c:Nat)(zs:List Rt)(w:World)(hM:b_ M w)(hx:Sl RatR w M A n c (zs.map jd))(hz:∀z,z∈zs->z.ok):
 CB 82 #[.slice A n c] (.tuple #[]) w:=by
 refine wid ?_;have hs:=hx.small;have hl:zs.length=n:=by have:=hx.len;simpa using this
 have H:=Hd hx;have HZ:=Hd hz;have HL:=Hd hl;have HM:=Hd hM;clear hx hz hl hM;refine ent func82 rfl ntmps82 ?_;gi_wp2;gi_loopw[6] (fun i wr=>∃k:Nat,k<=n/\i=.int .i64 k/\Below w.heap.size w wr) (fun i _=>n-(intOf i).toNat);case atStart=>exact⟨0,Nat.zero_le _,rfl,Below.refl _ _⟩
 case round=>
  obtain⟨k,hk,rfl,hb⟩:=hrel;by_cases hlt:k<n
  ·obtain⟨z,hz⟩:=dW zs k (by rw[HL.out];exact hlt);obtain⟨b,o,A1,n1,c1,A2,n2,c2,rfl,hc0,hc1,hc2,hc3,hs1,hs2⟩:=(H.out.keep (Keeps.of_below hb M)).TY (k:=k) (p:=aG z.num) (l1:=ints (bG z.num)) (q:=aG z.den) (l2:=ints (bG z.den)) (by rw[List.getElem?_map,hz];rfl);have S:=Hd2 hs1 hs2;have HK:=Hd (show qM (dF ((aG z.num,ints (bG z.num)),(aG z.den,ints (bG z.den))))=0 by rw[show((aG z.num,ints (bG z.num)),(aG z.den,ints (bG z.den)))=jd z from rfl,Tv (HZ.out z (List.mem_of_getElem? hz))];rfl);generalize aG z.num=p at*;generalize aG z.den=q at*;clear hs1 hs2 hz
   gi_wp2_with (first
    |(refine Cl 115 (yF _ _) ?_;rintro e w3 ⟨rfl,rfl⟩)
    |(refine Cl 23 (Em (l1:=ints (bG z.num)) (l2:=ints (bG z.den)) (M:=M) (fun j hj=>by have:=HM.out j hj;have:=hb.size;simp;omega) (S.out.1.go (by exact bel)) (S.out.2.go (by exact bel))) ?_;rintro e w2 ⟨rfl,hb2⟩;rw[HK.out];have HB2:=Hd hb2;clear hb2)
    |fail)
   have hb3:Below w.heap.size w w3:=(hb.alloc hb.size _).trans (HB2.out.mono (by simp;have:=hb.size;omega));exact⟨⟨k+1,by omega,by go_num,hb3⟩,by simp[intOf];omega⟩
  ·gi_wp2;go_end0;exact⟨rfl,hb⟩
theorem WM{MM:List Nat}{b be:Nat}{d:Nat}{u4:Value}(h0:V.cell? ⟨b,0,none⟩=some u0)(h1:V.cell? ⟨b,1,none⟩=some u1)(h2:V.cell? ⟨b,2,none⟩=some u2)(h3:V.cell? ⟨b,3,none⟩=some u3)(h4:V.cell? ⟨be,0,none⟩=some u4)
 (hQ:QW V MM (.agg #[.bool q,.slice A n c,.bool r,.slice B m d]) x) (hm:∀k,k∈M->k∈MM) (hbm:b∈MM) (hem:be∈MM) (hne:be≠b) (hb:Below s w V) (hsb:s<=b) (hse:s<=be):
 ∃wF,((((V.setCell ⟨b,0,none⟩ (.bool q)).setCell ⟨b,1,none⟩ (.slice A n c)).setCell ⟨b,2,none⟩ (.bool r)).setCell ⟨b,3,none⟩ (.slice B m d)).setCell ⟨be,0,none⟩ (.int .i64 0)=wF/\
  wF.cell? ⟨b,0,none⟩=some (.bool q)/\wF.cell? ⟨b,1,none⟩=some (.slice A n c)/\wF.cell? ⟨b,2,none⟩=some (.bool r)/\wF.cell? ⟨b,3,none⟩=some (.slice B m d)/\wF.cell? ⟨be,0,none⟩=some (.int .i64 0)/\
  QW wF M (.agg #[.bool q,.slice A n c,.bool r,.slice B m d]) x/\Below s w wF:=by
 have kp:=(((((Keeps.refl MM V).setCell (p:=⟨b,0,none⟩) (.inl hbm) (.bool q)).setCell (p:=⟨b,1,none⟩) (.inl hbm) (.slice A n c)).setCell (p:=⟨b,2,none⟩) (.inl hbm) (.bool r)).setCell (p:=⟨b,3,none⟩) (.inl hbm) (.slice B m d)).setCell (p:=⟨be,0,none⟩) (.inl hem) (.int .i64 0);have hne2:¬b=be:=fun e=>hne e.symm;have WO:¬be=b:=hne;refine⟨_,rfl,?_,?_,?_,?_,?_,?_,?_⟩;·simp[go_sem,h0,h1,h2,h3,h4,hne2,WO]
 ·simp[go_sem,h0,h1,h2,h3,h4,hne2,WO]
 ·simp[go_sem,h0,h1,h2,h3,h4,hne2,WO]
 ·simp[go_sem,h0,h1,h2,h3,h4,hne2,WO]
 ·simp[go_sem,h0,h1,h2,h3,h4,hne2,WO]
 ·obtain⟨A',n',c',B',m',d',e,hs,ht⟩:=hQ;exact⟨A',n',c',B',m',d',e,(hs.keep kp).less hm,(ht.keep kp).less hm⟩
 ·exact((((hb.setCell (p:=⟨b,0,none⟩) hsb _).setCell (p:=⟨b,1,none⟩) hsb _).setCell (p:=⟨b,2,none⟩) hsb _).setCell (p:=⟨b,3,none⟩) hsb _).setCell (p:=⟨be,0,none⟩) hse _
structure F7(w W:World)(q1 q2:Bool)(v1 v2:Value):Prop where
 a0:W.cell? ⟨w.heap.size,0,none⟩=some (.bool q1)
 a1:W.cell? ⟨w.heap.size,1,none⟩=some v1
 a2:W.cell? ⟨w.heap.size+1,0,none⟩=some (.bool q2)
 a3:W.cell? ⟨w.heap.size+1,1,none⟩=some v2
 b0:W.cell? ⟨w.heap.size+1+1,0,none⟩=some (.bool false)
 b1:W.cell? ⟨w.heap.size+1+1,1,none⟩=some (.slice none 0 0)
 b2:W.cell? ⟨w.heap.size+1+1,2,none⟩=some (.bool false)
 b3:W.cell? ⟨w.heap.size+1+1,3,none⟩=some (.slice none 0 0)
 e0:W.cell? ⟨w.heap.size+1+1+1,0,none⟩=some (.int .i64 0)
 f0:W.frozen? ⟨w.heap.size+1+1,0,none⟩=false
 f1:W.frozen? ⟨w.heap.size+1+1,1,none⟩=false
 f2:W.frozen? ⟨w.heap.size+1+1,2,none⟩=false
 f3:W.frozen? ⟨w.heap.size+1+1,3,none⟩=false
 fe:W.frozen? ⟨w.heap.size+1+1+1,0,none⟩=false
 bl:Below w.heap.size w W
 sz:w.heap.size+4<=W.heap.size
theorem F7.go(h:F7 w W q1 q2 v1 v2)(hb:Below W.heap.size W W'):F7 w W' q1 q2 v1 v2:=by have hs:=h.sz;have c:∀(k o:Nat) (u:Value),k<w.heap.size+4->W.cell? ⟨k,o,none⟩=some u->W'.cell? ⟨k,o,none⟩=some u:=fun k o u hk hu=>(hb.cell (p:=⟨k,o,none⟩) (show k<_ by omega)).trans hu;have f:∀(k o:Nat),k<w.heap.size+4->W.frozen? ⟨k,o,none⟩=false->W'.frozen? ⟨k,o,none⟩=false:=fun k o hk hu=>(hb.frozen (p:=⟨k,o,none⟩) (show k<_ by omega)).trans hu;exact⟨c _ _ _ (by omega) h.a0,c _ _ _ (by omega) h.a1,c _ _ _ (by omega) h.a2,c _ _ _ (by omega) h.a3,c _ _ _ (by omega) h.b0,c _ _ _ (by omega) h.b1,c _ _ _ (by omega) h.b2,c _ _ _ (by omega) h.b3,c _ _ _ (by omega) h.e0,f _ _ (by omega) h.f0,f _ _ (by omega) h.f1,f _ _ (by omega) h.f2,f _ _ (by omega) h.f3,f _ _ (by omega) h.fe,h.bl.trans (hb.mono h.bl.size),by have:=hb.size;omega⟩
theorem F7.start(w:World)(q1 q2:Bool)(v1 v2:Value):
 F7 w ((((w.alloc (.cells #[.bool q1,v1] 28)).alloc (.cells #[.bool q2,v2] 28)).alloc (.cells #[.bool false,.slice none 0 0,.bool false,.slice none 0 0] 30)).alloc (.cells #[.int .i64 0] 31)) q1 q2 v1 v2:=
 ⟨by simp[go_sem],by simp[go_sem],by simp[go_sem],by simp[go_sem],by simp[go_sem],by simp[go_sem],by simp[go_sem],by simp[go_sem],by simp[go_sem],by simp[go_sem],by simp[go_sem],by simp[go_sem],by simp[go_sem],by simp[go_sem],by exact bel,by simp⟩
theorem Zi{n d:Int}(hM:b_ M w)(hn:ZV w M v1 n)(hd:ZV w M v2 d)(fn:fits n=true)(fd:fits d=true)(h0:d≠0):
 Calls prog 103 #[v1,v2] w fun e w'=>∃u,e=.returned (.tuple #[u,.int .i64 0])/\QW w' M u (eP n d)/\Below w.heap.size w w':=by
 refine wid ?_;obtain⟨A,k1,c1,rfl,hx⟩:=hn;obtain⟨B,k2,c2,rfl,hy⟩:=hd;have hk2:0<k2:=by
  have hl:=hy.eu;have:(bG d).length≠0:=by intro e;have:=jO.1 (List.length_eq_zero_iff.1 e);omega
  omega
 have Dx:=Hd (show rJ (gZ (aG n,ints (bG n)))=0 by rw[show(aG n,ints (bG n))=jk n from rfl,j_ n fn];rfl);have EX:=Hd (show rJ (gZ (aG d,ints (bG d)))=0 by rw[show(aG d,ints (bG d))=jk d from rfl,j_ d fd];rfl)
 have HLW:=Hd (fun(W:World) (hb:Below w.heap.size w W) (hs:w.heap.size+4<=W.heap.size)=>Ej (w:=W) (M:=(w.heap.size+1+1)::(w.heap.size+1+1+1)::M) (n:=n) (d:=d) (A:=A) (B:=B) (k1:=k1) (k2:=k2) (c1:=c1) (c2:=c2)
  (by intro k hk;exact ad3)
  (((hx.more (b:=w.heap.size+1+1+1) (by omega)).more (b:=w.heap.size+1+1) (by omega)).keep (Keeps.of_below hb _))
  (((hy.more (b:=w.heap.size+1+1+1) (by omega)).more (b:=w.heap.size+1+1) (by omega)).keep (Keeps.of_below hb _)) fn fd h0)
 have X:=Hd2 hx hy;generalize aG n=q1 at*
 generalize aG d=q2 at*
 obtain⟨W1,hW1⟩:=aC ((((w.alloc (.cells #[.bool q1,.slice A k1 c1] 28)).alloc (.cells #[.bool q2,.slice B k2 c2] 28)).alloc (.cells #[.bool false,.slice none 0 0,.bool false,.slice none 0 0] 30)).alloc (.cells #[.int .i64 0] 31));have F1:F7 w W1 q1 q2 (.slice A k1 c1) (.slice B k2 c2):=by rw[<-hW1];exact F7.start w _ _ _ _
 have F:=Hd F1;have e0:=F1.a0;have e1:=F1.a1;have e2:=F1.a2;have e3:=F1.a3;clear hx hy hM F1 fn fd h0;cases q1<;>cases q2
 all_goals(
 refine qj func103 rfl ntmps103 ?_
 gi_wp2_with (first
  |(refine Cl 86 (HLW.out _ G3.out.bl G3.out.sz) ?_;rintro e w4 ⟨u4,rfl,⟨A4,n4,c4,B4,m4,d4,rfl,hq1,hq2⟩,hb4⟩;have F4:=G3.out.go hb4;obtain⟨q4,hq4⟩:=aC (aG (eP n d).num);obtain⟨r4,hr4⟩:=aC (aG (eP n d).den);rw[hq4,hr4];have HQ:=Hd (show QW w4 _ (.agg #[.bool q4,.slice A4 n4 c4,.bool r4,.slice B4 m4 d4]) (eP n d)from⟨A4,n4,c4,B4,m4,d4,by rw[hq4,hr4],hq1,hq2⟩);have r0:=F4.b0;have r1:=F4.b1;have r2:=F4.b2;have r3:=F4.b3;have r5:=F4.e0;have x0:=F4.f0;have x1:=F4.f1;have x2:=F4.f2;have x3:=F4.f3;have x5:=F4.fe;have G4:=Hd F4;clear hq1 hq2 hb4 F4 hq4 hr4)
  |(refine Cl 115 (yF _ _) ?_;rintro e wn ⟨rfl,rfl⟩)
  |(refine⟨trivial,?_⟩;gi_at_call 39;have g:=G2.out;clear g;refine Cn (eF B k2 c2 _ (ints (bG d)) _ ((X.out.2.go F.out.bl).go G2.out.2)) ?_;rintro e w3 ⟨rfl,hb3⟩;rw[EX.out];have F3:=G2.out.1.go hb3;have y0:=F3.a0;have y1:=F3.a1;have y2:=F3.a2;have y3:=F3.a3;have G3:=Hd F3;clear hb3 F3)
  |(refine Cl 39 (eF A k1 c1 _ (ints (bG n)) _ (X.out.1.go F.out.bl)) ?_;rintro e w2 ⟨rfl,hb2⟩;rw[Dx.out];have F2:=F.out.go hb2;have u0:=F2.a0;have u1:=F2.a1;have u2:=F2.a2;have u3:=F2.a3;have G2:=Hd2 F2 hb2;clear F2 hb2)
  |fail)
 obtain⟨wF,hwF,t0,t1,t2,t3,t5,hQ,bF⟩:=WM (M:=M) r0 r1 r2 r3 r5 HQ.out (fun k hk=>by simp[hk]) (by simp) (by simp) (by omega) G4.out.bl (by omega) (by omega);refine leavesIn_cons (f:=81) (args:=#[.pointer (some ⟨w.heap.size+1+1+1,0,none⟩)]) (by simp) (by simp) (by simp[go_sem]) (fun _ _=>trivial) ?_;rw[hwF];refine(kT ⟨w.heap.size+1+1+1,0,none⟩ _).mono ?_;rintro e u' w'' ⟨rfl,rfl,rfl⟩;refine⟨.tuple #[.agg #[.bool q4,.slice A4 n4 c4,.bool r4,.slice B4 m4 d4],.int .i64 0],?_,_,rfl,hQ,bF⟩;simp[results,results103,go_sem,t0,t1,t2,t3,t5])
theorem En{n:Int}(h:i64 n):fits n=true:=by have h3:(bC n.natAbs).length<=3:=BL (by unfold i64 at h;omega);exact decide_eq_true (Nat.le_trans h3 (by omega))
structure F8(w W:World):Prop where
 b0:W.cell? ⟨w.heap.size,0,none⟩=some (.bool false)
 b1:W.cell? ⟨w.heap.size,1,none⟩=some (.slice none 0 0)
 b2:W.cell? ⟨w.heap.size,2,none⟩=some (.bool false)
 b3:W.cell? ⟨w.heap.size,3,none⟩=some (.slice none 0 0)
 f0:W.frozen? ⟨w.heap.size,0,none⟩=false
 f1:W.frozen? ⟨w.heap.size,1,none⟩=false
 f2:W.frozen? ⟨w.heap.size,2,none⟩=false
 f3:W.frozen? ⟨w.heap.size,3,none⟩=false
 bl:Below w.heap.size w W
 sz:w.heap.size+1<=W.heap.size
theorem F8.go(h:F8 w W)(hb:Below W.heap.size W W'):F8 w W':=by have hs:=h.sz;have c:∀(o:Nat) (u:Value),W.cell? ⟨w.heap.size,o,none⟩=some u->W'.cell? ⟨w.heap.size,o,none⟩=some u:=fun o u hu=>(hb.cell (p:=⟨w.heap.size,o,none⟩) (show w.heap.size<_ by omega)).trans hu;have f:∀(o:Nat),W.frozen? ⟨w.heap.size,o,none⟩=false->W'.frozen? ⟨w.heap.size,o,none⟩=false:=fun o hu=>(hb.frozen (p:=⟨w.heap.size,o,none⟩) (show w.heap.size<_ by omega)).trans hu;exact⟨c _ _ h.b0,c _ _ h.b1,c _ _ h.b2,c _ _ h.b3,f _ h.f0,f _ h.f1,f _ h.f2,f _ h.f3,h.bl.trans (hb.mono h.bl.size),by have:=hb.size;omega⟩
theorem F8.start(w:World):F8 w (w.alloc (.cells #[.bool false,.slice none 0 0,.bool false,.slice none 0 0] 30)):=⟨by simp[go_sem],by simp[go_sem],by simp[go_sem],by simp[go_sem],by simp[go_sem],by simp[go_sem],by simp[go_sem],by simp[go_sem],by exact bel,by simp⟩
theorem uP{n d:Int}(hM:b_ M w)(hn:i64 n)(hd:i64 d)(h0:d≠0):
 Calls prog 66 #[.int .i64 n,.int .i64 d] w fun e w'=>∃u,e=.returned (.tuple #[u,.int .i64 0])/\QW w' M u (eP n d)/\Below w.heap.size w w':=by
 refine wid ?_;obtain⟨W1,hW1⟩:=aC (w.alloc (.cells #[.bool false,.slice none 0 0,.bool false,.slice none 0 0] 30));have F1:F8 w W1:=by rw[<-hW1];exact F8.start w
 have hM1:b_ (w.heap.size::M) W1:=by intro k hk;have:=F1.sz;exact aew
 have H:=h_ hM1 hn hd h0;have F:=Hd F1;clear hM hM1 hn hd h0 F1;refine ent func66 rfl ntmps66 ?_
 gi_wp2_with (first
  |(refine Cl 103 (Zi (M:=w.heap.size::M) (n:=n) (d:=d) ((H.out.1.le G2.out.2.size).le G3.out.2.size) (ZV.go G2.out.1 G3.out.2) G3.out.1 (En H.out.2.1) (En H.out.2.2.1) H.out.2.2.2) ?_;rintro e w4 ⟨u4,rfl,⟨A4,n4,c4,B4,m4,d4,rfl,hq1,hq2⟩,hb4⟩;have F4:=((F.out.go G2.out.2).go G3.out.2).go hb4;obtain⟨q4,hq4⟩:=aC (aG (eP n d).num);obtain⟨r4,hr4⟩:=aC (aG (eP n d).den);rw[hq4,hr4];have HQ:=h_ hq1 hq2 hq4 hr4;have r0:=F4.b0;have r1:=F4.b1;have r2:=F4.b2;have r3:=F4.b3;have x0:=F4.f0;have x1:=F4.f1;have x2:=F4.f2;have x3:=F4.f3;have G4:=Hd F4;clear hq1 hq2 hb4 F4 hq4 hr4)
  |(refine⟨trivial,?_⟩;gi_at_call 104;have g:=G2.out;clear g;refine Cn (Ih (M:=w.heap.size::M) (H.out.1.le G2.out.2.size) H.out.2.2.1) ?_;rintro e w3 ⟨u3,rfl,hz3,hb3⟩;have G3:=Hd2 hz3 hb3;clear hz3 hb3)
  |(refine Cl 104 (Ih (M:=w.heap.size::M) H.out.1 H.out.2.1) ?_;rintro e w2 ⟨u2,rfl,hz2,hb2⟩;have G2:=Hd2 hz2 hb2;clear hz2 hb2)
  |fail)
 obtain⟨wF,hwF,t0,t1,t2,t3,hQ,bF⟩:=nN r0 r1 r2 r3 HQ.out.1 HQ.out.2.1 HQ.out.2.2.1 HQ.out.2.2.2 G4.out.bl (Nat.le_refl _);rw[hwF];refine⟨rfl,.tuple #[.agg #[.bool q4,.slice A4 n4 c4,.bool r4,.slice B4 m4 d4],.int .i64 0],?_,_,rfl,hQ,bF⟩;simp[results,go_sem,t0,t1,t2,t3]
end
end Go.Proofs.YtefnknhjlejalaaGreatDoor
