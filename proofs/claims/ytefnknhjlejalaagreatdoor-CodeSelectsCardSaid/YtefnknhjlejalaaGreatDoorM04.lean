/- Lemmas and walks; no statement is proved here. -/
import Derived.Lib.SlicesS
import Derived.Test.YtefnknhjlejalaaGreatDoorM03
set_option linter.unusedVariables false
set_option linter.unusedSimpArgs false
set_option maxRecDepth 20000
set_option maxHeartbeats 6000000
namespace Go.Proofs.YtefnknhjlejalaaGreatDoor
open Go.Proofs.Tryz Go.RowKit Go.Shelf
variable {x:ByteArray}{zs:List ByteArray}
theorem str_eq{y:ByteArray}(h:¬x=y):(x.toList==y.toList)=false:=(Lib.bytes_beq_false_iff _ _).2 h
def Ud(x:ByteArray)(zs:List ByteArray):Bool:=Lib.containsS zs x
theorem PW:Ud x zs=true↔x∈zs:=Lib.containsS_iff ..
theorem PX(h:x∈zs):Ud x zs=true:=PW.2 h
theorem Uk(h:¬x∈zs):Ud x zs=false:=by
 cases e:Ud x zs;·rfl
 exact absurd (PW.1 e) h
theorem QO(b n c:Nat)(zs:List ByteArray)(x:ByteArray)(w:World)(hz:zs.length=n)(hbig:n<=1000000)(hc:∀j y,zs[j]?=some y->w.cell? ⟨b,j,none⟩=some (.string y)):
 Calls prog 212 #[.slice (some ⟨b,0,none⟩) n c,.string x] w fun e w'=>(∃i:Int,e=.returned (.int .i64 i)/\decide (0<=i)=Ud x zs)/\w=w':=by
 refine wid ?_;have H:=Hd hc;clear hc;refine ent func212 rfl ntmps212 ?_;gi_wp2;gi_loopw[8] (fun i wr=>∃k:Nat,k<=n/\i=.int .i64 k/\w=wr/\Hid (∀j y,j<k->zs[j]?=some y->¬x=y)) (fun i _=>n-(intOf i).toNat);case atStart=>exact⟨0,Nat.zero_le _,rfl,rfl,Hd (fun j y hj=>by omega)⟩
 case round=>
  obtain⟨k,hk,rfl,rfl,hr⟩:=hrel;by_cases hlt:k<n
  ·obtain⟨y,hy⟩:=dW zs k (by omega);have h0:=H.out k y hy;by_cases he:x=y;·subst he;have HR:=Hd (List.mem_of_getElem? hy);clear hy;gi_wp2;go_ret;exact⟨⟨_,rfl,by rw[PX HR.out];simp⟩,rfl⟩
   have hne:=str_eq he;have hr2:=Hd (show ∀j z,j<k+1->zs[j]?=some z->¬x=z from fun j z hj hz2=>by
    by_cases e:j=k;·subst e;rw[hy]at hz2;cases hz2;exact he
    exact hr.out j z (by omega) hz2)
   clear hy he;gi_wp2;exact⟨⟨k+1,by omega,by go_num,trivial,hr2⟩,by simp[intOf];omega⟩
  ·have HR:=Hd (show ¬x∈zs from fun hm=>by
     obtain⟨j,hj⟩:=List.getElem?_of_mem hm;exact hr.out j x (by have:=(List.getElem?_eq_some_iff.1 hj).1;omega) hj rfl)
   gi_wp2;go_ret;exact⟨⟨_,rfl,by rw[Uk HR.out];simp⟩,rfl⟩
theorem IJ(b n c:Nat)(zs:List ByteArray)(x:ByteArray)(w:World)(hz:zs.length=n)(hbig:n<=1000000)(hc:∀j y,zs[j]?=some y->w.cell? ⟨b,j,none⟩=some (.string y)):
 Calls prog 203 #[.slice (some ⟨b,0,none⟩) n c,.string x] w fun e w'=>e=.returned (.bool (Ud x zs))/\w=w':=by
 refine wid ?_;refine ent func203 rfl ntmps203 ?_
 gi_wp2_with (first
  |(refine Cl 212 (QO b n c zs x w hz hbig hc) ?_;rintro e w' ⟨⟨i,rfl,hi⟩,rfl⟩;have HI:=Hd hi;clear hi)
  |fail)
 go_ret;exact⟨by rw[<-HI.out];first|rfl|simp,rfl⟩
def Tab(w:World):Prop:=Lib.TabIs prog w "strings.asciiSpace" .u8 Lib.asciiSpaceTab
def B_:ByteArray:= "competition criterion from to step sum mean trim median reverse bonus value most malus tie total score highest rule lot round panel quota over under lots free places prizes points best least greatest if upto then else end".toUTF8
def gY:List ByteArray:=(Lib.fields B_.data.toList).map fun l=>⟨l.toArray⟩
set_option maxRecDepth 100000 in
theorem QS(w:World)(ht:Tab w):Calls prog 204 #[] w fun e w'=>e=.returned (.slice (some ⟨w.heap.size,0,none⟩) gY.length gY.length)/\w'=w.alloc (.cells (gY.map Value.string).toArray 9):=by
 have e1:gY.length=(Lib.fields B_.data.toList).length:=by simp[gY]
 have e2:gY.map Value.string=(Lib.fields B_.data.toList).map fun l=>Value.string ⟨l.toArray⟩:=by simp[gY]
 rw[e1,e2];have ha:B_.data.toList.all (fun b=>decide (b.toNat<128))=true:=by decide+kernel
 have HC:=Hd (strings_Fields B_ w (by decide+kernel) (fun j b hb=>of_decide_eq_true (List.all_eq_true.1 ha b (List.mem_of_getElem? hb))) ht);refine wid ?_;refine ent func204 rfl ntmps204 ?_
 gi_wp2_with (first
  |(refine Cl 213 HC.out ?_;rintro e w' ⟨rfl,rfl⟩)
  |fail)
 go_ret;exact⟨rfl,rfl⟩
theorem tab_below{w w':World}(h:Tab w)(hb:Below w.heap.size w w'):Tab w':=by
 unfold Tab Lib.TabIs World.var? at*
 cases e:prog.globalNamed "strings.asciiSpace" with
 |none=>simp[e]at h
 |some g=>
  simp only[e,Option.bind_some]at h |-;have hg:g<w.heap.size:=by
   by_cases hg:g<w.heap.size;·exact hg
   rw[Array.getElem?_eq_none (by omega)]at h;cases h
  rw[hb.block g hg];exact h
theorem Ul(w:World):∀j y,gY[j]?=some y->(w.alloc (.cells (gY.map Value.string).toArray 9)).cell? ⟨w.heap.size,j,none⟩=some (.string y):=by intro j y hy;simp[hy]
theorem QT:gY.length=38:=by decide+kernel
def bZ(s:ByteArray):Bool:=nameB s&& !(Ud s gY)
theorem qm(s:ByteArray)(w:World)(ht:Tab w):CB 177 #[.string s] (.bool (bZ s)) w:=by
 refine wid ?_;obtain⟨nl,hnl⟩:=aC gY.length;have hW:=QS w ht;rw[hnl]at hW;have h38:nl<=1000000:=by rw[<-hnl,QT];omega
 obtain⟨V,hV⟩:=aC (w.alloc (.cells (gY.map Value.string).toArray 9));have hC:=IJ w.heap.size nl nl gY s V hnl h38 (by rw[<-hV];exact Ul w);rw[hV]at hW;have hb:Below w.heap.size w V:=by rw[<-hV];exact bel
 have H:=fB hW hC hb;clear hW hC hb hV;cases hn:nameB s
 ·have HN:=Hd hn;have HR:=Hd (show bZ s=false by unfold bZ;rw[hn];rfl);clear hn;refine ent func177 rfl ntmps177 ?_
  gi_wp2_with (first
   |(refine Cl 202 (FT _ _) ?_;rintro e w' ⟨rfl,rfl⟩;rw[HN.out])
   |(refine⟨trivial,?_⟩))
  go_ret;exact⟨by rw[HR.out];first|rfl|simp,Below.refl _ _⟩
 have HN:=Hd hn;obtain⟨c,hc⟩:=aC (Ud s gY);have HCC:=Hd hc;have HR:=Hd (show bZ s= !c by unfold bZ;rw[hn,hc];rfl);clear hn hc;refine ent func177 rfl ntmps177 ?_
 gi_wp2_with (first
  |(refine Cl 203 H.out.2.1 ?_;rintro e w' ⟨rfl,rfl⟩;rw[HCC.out])
  |(refine Cl 204 H.out.1 ?_;rintro e w' ⟨rfl,rfl⟩)
  |(refine Cl 202 (FT _ _) ?_;rintro e w' ⟨rfl,rfl⟩;rw[HN.out])
  |fail)
 go_ret;exact⟨by rw[HR.out];first|rfl|simp,H.out.2.2⟩
end Go.Proofs.YtefnknhjlejalaaGreatDoor
