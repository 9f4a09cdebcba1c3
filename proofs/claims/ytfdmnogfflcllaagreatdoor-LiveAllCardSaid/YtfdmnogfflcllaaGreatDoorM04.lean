/- Lemmas -/
import Derived.Lib.SlicesS
import Derived.Test.YtfdmnogfflcllaaGreatDoorM03
set_option linter.all false
set_option maxRecDepth 100000
set_option maxHeartbeats 0
namespace Go.Proofs.YtfdmnogfflcllaaGreatDoor
open Go.Proofs.Tryz Go.RowKit Go.Shelf
variable {x:ByteArray}{zs:List ByteArray}
theorem str_eq{y:ByteArray}(h:¬x=y):(x.toList==y.toList)=false:=(Lib.bytes_beq_false_iff _ _).2 h
def Ud(x:ByteArray)(zs:List ByteArray):Bool:=Lib.containsS zs x
theorem PW:Ud x zs=true↔x∈zs:=Lib.containsS_iff ..
theorem PX(h:x∈zs):Ud x zs=true:=PW.2 h
theorem Uk(h:¬x∈zs):Ud x zs=false:=by
 cases e:Ud x zs;·rfl
 exact absurd (PW.1 e) h
theorem QO(b n c:Nat)(zs:List ByteArray)(x:ByteArray)(w:World)(hz:zs.length=n)(hbig:n<=1000000)(hc:∀j y,zs[j]?=some y->w.cell? ⟨b,j,none⟩=some (.string y)):
 Calls prog 285 #[.slice (some ⟨b,0,none⟩) n c,x] w fun e w'=>(∃i:Int,e=.returned i/\decide (0<=i)=Ud x zs)/\w=w':=by
 refine wid ?_;have H:=Hd hc;clear hc;refine ent func285 ntmps285 ?_;gi_wp2;gi_loopw[8] (fun i wr=>∃k:Nat,k<=n/\i=k/\w=wr/\Hid (∀j y,j<k->zs[j]?=some y->¬x=y)) (fun i _=>n-(intOf i).toNat);case atStart=>exact⟨0,cf _,rfl,rfl,Hd (fun j y C=>by omega)⟩
 case round=>
  obtain⟨k,o,rfl,rfl,A⟩:=hrel;by_cases p:k<n
  ·obtain⟨y,g⟩:=dW zs k pj;have V:=H.out k y g;by_cases a:x=y;·subst a;have d:=Hd (bh g);clear g;gi_wp2;go_ret;exact⟨⟨_,rfl,by rw[PX d.out];simp⟩,rfl⟩
   have q:=str_eq a;have m:=Hd (show ∀j z,j<k+1->zs[j]?=some z->¬x=z from fun j z C f=>by
    by_cases e:j=k;·subst e;rw[g]at f;cases f;exact a
    exact A.out j z pj f)
   clear g a;gi_wp2;exact⟨⟨k+1,pj,by go_num,bO,m⟩,by simp[intOf];omega⟩
  ·have d:=Hd (show ¬x∈zs from fun l=>by
     obtain⟨j,C⟩:=gN l;exact A.out j x (by have:=(bu.1 C).1;omega) C rfl)
   gi_wp2;go_ret;exact⟨⟨_,rfl,by rw[Uk d.out];simp⟩,rfl⟩
theorem IJ(b n c:Nat)(zs:List ByteArray)(x:ByteArray)(w:World)(hz:zs.length=n)(hbig:n<=1000000)(hc:∀j y,zs[j]?=some y->w.cell? ⟨b,j,none⟩=some (.string y)):
 Calls prog 268 #[.slice (some ⟨b,0,none⟩) n c,x] w fun e w'=>e=.returned (.bool (Ud x zs))/\w=w':=by
 refine wid ?_;refine ent func268 ntmps268 ?_
 gi_wp2_with (first
  |(refine Cl 285 (QO b n c zs x w hz hbig hc) ?_;rintro e w' ⟨⟨i,rfl,u⟩,rfl⟩;have a:=Hd u;clear u)
  |fail)
 go_ret;exact⟨by rw[<-a.out];first|rfl|simp,rfl⟩
def Tab(w:World):Prop:=Lib.TabIs prog w "strings.asciiSpace" .u8 Lib.asciiSpaceTab
def B_:ByteArray:= "competition criterion from to step sum mean trim median reverse bonus value most malus tie total score highest rule lot round panel quota over under lots free places prizes points best least greatest if upto then else end".toUTF8
def gY:List ByteArray:=(Lib.fields B_.data.toList).map fun l=>⟨l.toArray⟩
theorem QS(w:World)(ht:Tab w):Calls prog 269 #[] w fun e w'=>e=.returned (.slice (some ⟨w,0,none⟩) gY.length gY.length)/\w'=w.alloc (.cells (gY.map Value.string).toArray 9):=by
 have H:gY.length=(Lib.fields B_.data.toList).length:=by simp[gY]
 have O:gY.map Value.string=(Lib.fields B_.data.toList).map fun l=>Value.string ⟨l.toArray⟩:=by simp[gY]
 rw[H,O];have a:B_.data.toList.all (fun b=>decide (b.toNat<128))=true:=py;have t:=Hd (strings_Fields B_ w py (fun j b hb=>cW (cT.1 a b (bh hb))) ht);refine wid ?_;refine ent func269 ntmps269 ?_
 gi_wp2_with (first
  |(refine Cl 286 t.out ?_;rintro e w' ⟨rfl,rfl⟩)
  |fail)
 go_ret;exact⟨rfl,rfl⟩
theorem tab_below{w w':World}(h:Tab w)(hb:Below w w w'):Tab w':=by
 unfold Tab Lib.TabIs World.var? at*
 cases e:prog.globalNamed "strings.asciiSpace" with
 |none=>simp[e]at h
 |some g=>
  simp only[e,Option.bind_some]at h |-;have P:g<w.heap.size:=by
   by_cases P:g<w.heap.size;·exact P
   rw[Array.getElem?_eq_none pj]at h;cases h
  rw[hb.block g P];exact h
theorem Ul(w:World):∀j y,gY[j]?=some y->(w.alloc (.cells (gY.map Value.string).toArray 9)).cell? ⟨w,j,none⟩=some (.string y):=by intro j y g;simp[g]
theorem QT:gY.length=38:=py
def bZ(s:ByteArray):Bool:=nameB s&& !(Ud s gY)
theorem qm(s:ByteArray)(w:World)(ht:Tab w):CB 243 #[s] (.bool (bZ s)) w:=by
 refine wid ?_;obtain⟨j,i⟩:=aC gY.length;have g:=QS w ht;rw[i]at g;have m:j<=1000000:=by rw[<-i,QT];omega
 obtain⟨V,f⟩:=aC (w.alloc (.cells (gY.map Value.string).toArray 9));have k:=IJ w.heap.size j j gY s V i m (by rw[<-f];exact Ul w);rw[f]at g;have hb:Below w w V:=by rw[<-f];exact bel
 have H:=fB g k hb;clear g k hb f;cases d:nameB s
 ·have HN:=Hd d;have n:=Hd (show bZ s=false by unfold bZ;rw[d];rfl);clear d;refine ent func243 ntmps243 ?_
  gi_wp2_with (first
   |(refine Cl 267 (FT _ _) ?_;rintro e w' ⟨rfl,rfl⟩;rw[HN.out])
   |(refine⟨bO,?_⟩))
  go_ret;exact⟨by rw[n.out];first|rfl|simp,bL _ _⟩
 have HN:=Hd d;obtain⟨c,K⟩:=aC (Ud s gY);have l:=Hd K;have n:=Hd (show bZ s= !c by unfold bZ;rw[d,K];rfl);clear d K;refine ent func243 ntmps243 ?_
 gi_wp2_with (first
  |(refine Cl 268 H.b ?_;rintro e w' ⟨rfl,rfl⟩;rw[l.out])
  |(refine Cl 269 H.a ?_;rintro e w' ⟨rfl,rfl⟩)
  |(refine Cl 267 (FT _ _) ?_;rintro e w' ⟨rfl,rfl⟩;rw[HN.out])
  |fail)
 go_ret;exact⟨by rw[n.out];first|rfl|simp,H.v⟩
