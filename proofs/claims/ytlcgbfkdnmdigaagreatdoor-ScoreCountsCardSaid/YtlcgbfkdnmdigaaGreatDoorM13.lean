/- Lemmas and walks; no statement is proved here. -/
import Derived.Test.YtlcgbfkdnmdigaaGreatDoorM12
set_option linter.unusedVariables false
set_option linter.unusedSimpArgs false
set_option maxRecDepth 20000
set_option maxHeartbeats 6000000
namespace Go.Proofs.YtlcgbfkdnmdigaaGreatDoor
open Go.Proofs.Tryz Go.RowKit Go.Shelf
theorem aek{p:Prop}(h:p:=by have L_:=World.ownsRow_lit (base:=w.heap.size+1) (size:=1) (e:=3) (w.alloc (.cells #[.bool false,.slice none 0 0] 40)) #[] 0 (by simp) (by simp[maxLen]) rfl;rw[show(w.alloc (.cells #[.bool false,.slice none 0 0] 40)).heap.size=w.heap.size+1 by simp]at L_;exact⟨0,x, [],Nat.le_refl _,rfl,Hd2 (List.nil_append _).symm rfl,L_,by exact bel,by simp,by simp[go_sem],by simp[go_sem],by simp[go_sem],by simp[go_sem]⟩):p:=h
theorem aeT{p:Prop}(h:p:=by have:=P.out.1;rw[hI.out.1,List.length_append,hI.out.2]at this;omega):p:=h
theorem afz{p:Prop}(h:p:=by
 rcases List.mem_cons.1 hj with rfl|hj;·omega
 have:=P.out.2.1 j hj;omega):p:=h
theorem afU{p:Prop}(h:p:=by refine⟨?_,by simp[hI.out.2]⟩;rw[hI.out.1,iP (by omega)];simp):p:=h
variable {n:Int}{w:World}{base:Nat}{v:Value}{xs:List Int}
section
attribute [local go_sem] Oper.semAt_some
theorem EU(r:Nat):bits .and .u64 (r:Int) 1073741823=((r%BB:Nat):Int):=by
 have hm:(BitVec.ofInt 64 1073741823).toNat=2^30-1:=by decide
 have key:(BitVec.ofInt 64 (r:Int) &&& BitVec.ofInt 64 1073741823).toNat=((r:Int)% ((2^64:Nat):Int)).toNat%2^30:=by rw[BitVec.toNat_and,BitVec.toNat_ofInt,hm,Nat.and_two_pow_sub_one_eq_mod]
 show IntKind.u64.wrap ((BitVec.ofInt 64 (r:Int) &&& BitVec.ofInt 64 1073741823).toNat:Nat)=((r%1073741824:Nat):Int);rw[key,IntKind.wrap_u64];omega
theorem BL{x:Nat}(h:x<=18446744073709551615):(bC x).length<=3:=by
 by_cases h1:x=0;·rw[h1,bU];simp
 rw[iP h1];by_cases h2:x/BB=0;·rw[h2,bU];simp
 rw[iP h2];by_cases h3:x/BB/BB=0;·rw[h3,bU];simp
 rw[iP h3];have h4:x/BB/BB/BB=0:=by show x/1073741824/1073741824/1073741824=0;omega
 rw[h4,bU];simp
theorem Tt(h:i64 n):(if n<0 then(IntKind.u64.wrap (-(IntKind.u64.wrap n)))else IntKind.u64.wrap n)=(n.natAbs:Int):=by unfold i64 at h;rw[IntKind.wrap_u64,IntKind.wrap_u64];split<;>omega
theorem O8{n:Nat}(h:w.ownsRow base 3 1 v n (xs.map (Value.int .i64)))(hb:base<=w.heap.size)(hn:n<=1000000000)(g:Nat)(x:Int)
 (hc:w.cell? ⟨g,0,none⟩=some (.int .i64 x)):
 ∃v' w',(Builtin.append_ #[154,154] 154 #[v,.slice (some ⟨g,0,none⟩) 1 1]).run prog w=.ok v' w'/\w'.ownsRow base 3 1 v' (n+1) ((xs++ [x]).map (Value.int .i64))/\w.grownBy w' v.ownBlock/\(v'.ownBlock=v.ownBlock\/v'.ownBlock=some w.heap.size)/\∃gg cc,v'=.slice (some ⟨gg,0,none⟩) (n+1) cc:=by
 obtain⟨i0,hi,hz0,hz1,hz2⟩:=info_parts qo;obtain⟨v',w',h1,h2,h3,_,h5⟩:=run_append_own_at (P:=prog) w base 154 154 3 i0 (.int .i64 0) 1 8 underlying154 hi hz0 hz1 hz2 rfl (by decide) v n _ h ⟨g,0,none⟩ 1 1 [.int .i64 x] rfl (by intro j u hu;match j,hu with|0,hu=>cases hu;exact hc) (by simp[Value.oneCell']) (by unfold maxLen;omega) (by omega) hb;rw[List.map_append];exact⟨v',w',h1,h2,h3,h5,ownsRow_succ h2⟩
theorem WI{W:World}{n:Nat}(h:W.ownsRow base 3 1 v n (xs.map (Value.int .i64)))(hb:base<=W.heap.size)(hn:n<=1000000000)(x:Int):
 ∃v' W',(Builtin.append_ #[154,154] 154 #[v,.slice (some ⟨W.heap.size,0,none⟩) 1 1]).run prog (W.alloc (.cells #[.int .i64 x] 3))=.ok v' W'/\W'.ownsRow base 3 1 v' (n+1) ((xs++ [x]).map (Value.int .i64))/\Below base W W'/\∃gg cc,v'=.slice (some ⟨gg,0,none⟩) (n+1) cc:=by
 obtain⟨v',W',r1,r2,r3,r4,r5⟩:=O8 (h.alloc (.cells #[.int .i64 x] 3)) (by simp;omega) hn W.heap.size x (by simp[go_sem]);exact af7
theorem Ih{M:List Nat}(hM:b_ M w)(hn:i64 n):
 Calls prog 50 #[.int .i64 n] w fun e w'=>∃u,e=.returned u/\ZV w' M u n/\Below w.heap.size w w':=by
 refine wid ?_;have hw:=Tt hn;have hx3:(bC n.natAbs).length<=3:=BL (by unfold i64 at hn;omega);obtain⟨x,hx⟩:=aC n.natAbs;have hxl:x<=9223372036854775808:=by unfold i64 at hn;omega
 rw[hx]at hw hx3;have P:=fB hx3 hM hx;clear hx3 hM hx hn;by_cases hneg:n<0;all_goals(
 first
  |rw[if_pos hneg]at hw
  |rw[if_neg hneg]at hw
 refine ent func50 rfl ntmps50 ?_;gi_wp2;gi_loopw[3,4] (fun v u wr=>∃(k r:Nat) (out:List Nat),r<=x/\u=.int .u64 r/\Hid (bC x=out++bC r/\out.length=k)/\Hid (wr.ownsRow (w.heap.size+1) 3 1 v k ((ints out).map (Value.int .i64)))/\Below w.heap.size w wr/\w.heap.size+1<=wr.heap.size/\wr.cell? ⟨w.heap.size,0,none⟩=some (.bool false)/\wr.cell? ⟨w.heap.size,1,none⟩=some (.slice none 0 0)/\wr.frozen? ⟨w.heap.size,0,none⟩=false/\wr.frozen? ⟨w.heap.size,1,none⟩=false) (fun _ u _=>(intOf u).toNat);case atStart=>exact aek
 case round=>
  obtain⟨k,r,out,hr,rfl,hI,hO,hb,hsz,c0,c1,f0,f1⟩:=hrel;by_cases hr0:0<r
  ·have hk:k<=3:=by exact aeT
   obtain⟨v',W',r1,r2,r3,gg,cc,rfl⟩:=WI hO.out hsz (by omega) ((r:Int)% (BB:Int));rw[show ints out++ [(r:Int)% (BB:Int)]=ints (out++ [r%BB]) by simp[ints]]at r2;have hstep:bC x=(out++ [r%BB])++bC (r/BB)/\(out++ [r%BB]).length=k+1:=by exact afU
   have hd1:r/BB<r:=Nat.div_lt_self hr0 rE;have JR:=Hd r1;have HR:=fB r2 (hb.trans (r3.mono (by omega))) hstep;have e1:=EU r;have e2:(r:Int)/1073741824=((r/BB:Nat):Int):=by rw[BBi];exact(Int.natCast_ediv _ _).symm
   have HE:=Hd e2;have e3:IntKind.i64.wrap ((r:Int)% (BB:Int))=(r:Int)% (BB:Int):=by rw[show(r:Int)% (BB:Int)=((r%BB:Nat):Int)from(Int.natCast_emod _ _).symm];have:=Nat.mod_lt r eX;have h2:BB<=1073741824:=Nat.le_refl _;rw[IntKind.wrap_i64];omega
   have hs3:=r3.size;have c0':=(r3.cell (p:=⟨w.heap.size,0,none⟩) (Nat.lt_succ_self _)).trans c0;have c1':=(r3.cell (p:=⟨w.heap.size,1,none⟩) (Nat.lt_succ_self _)).trans c1;have f0':=(r3.frozen (p:=⟨w.heap.size,0,none⟩) (Nat.lt_succ_self _)).trans f0;have f1':=(r3.frozen (p:=⟨w.heap.size,1,none⟩) (Nat.lt_succ_self _)).trans f1;have HC:=h_ c0' c1' f0' f1';clear c0' c1' f0' f1' c0 c1 f0 f1;clear r1 r2 r3 hstep hI hO
   gi_wp2_with (first
    |(gi_at_builtin;refine wpListIn_plain rfl fun K hK'=>?_;refine aI _ _ _ rfl rfl rfl JR.out (hK' _ _ ?_);clear hK' K)
    |fail)
   exact⟨⟨k+1,r/BB,_,by omega,by rw[<-HE.out];rfl,HR.out.2.2,HR.out.1,HR.out.2.1,by omega,HC.out.1,HC.out.2.1,HC.out.2.2.1,HC.out.2.2.2⟩,by have h2:=HE.out;show((r:Int)/(BB:Int)).toNat<((r:Int)).toNat;rw[BBi]at h2;rw[h2,Int.toNat_natCast,Int.toNat_natCast];exact hd1⟩
  ·obtain rfl:r=0:=by omega
   have hk:k<=3:=by exact aeT
   have hd:bC x=out:=by have:=hI.out.1;rwa [bU,List.append_nil]at this
   have hg:Good out:=by rw[<-hd];exact aO x
   obtain⟨O,cO,rfl,hsl⟩:=Sl.BO hO.out (fU hg) (by omega) (M:=w.heap.size::M) (by intro j hj;exact afz);rw[<-hd]at hsl;have HF:=Hd hsl;clear hsl hO hI hd hg;gi_wp2;refine⟨rfl,.agg #[.bool (decide (n<0)),.slice O k cO],by simp[results,go_sem,c0,c1,hneg],.agg #[.bool (decide (n<0)),.slice O k cO],rfl,⟨O,k,cO,rfl,?_⟩,?_⟩
   ·have h:=HF.out.keep ((((Keeps.refl (w.heap.size::M) wr).setCell (p:=⟨w.heap.size,0,none⟩) (.inl (by simp)) (.bool (decide (n<0)))).setCell (p:=⟨w.heap.size,1,none⟩) (.inl (by simp)) (.slice O k cO)));have h2:=h.less (M':=M) (fun j hj=>List.mem_cons_of_mem _ hj);rw[show bG n=bC x from by unfold bG;rw[P.out.2.2]]
    first
     |exact h2
     |(simp only[hneg,decide_true]at h2;exact h2)
   exact(hb.setCell (p:=⟨w.heap.size,0,none⟩) (Nat.le_refl _) _).setCell (p:=⟨w.heap.size,1,none⟩) (Nat.le_refl _) _)
end
end Go.Proofs.YtlcgbfkdnmdigaaGreatDoor
