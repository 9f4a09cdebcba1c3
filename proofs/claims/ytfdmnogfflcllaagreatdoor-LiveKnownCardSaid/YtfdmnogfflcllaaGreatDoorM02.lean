/- Lemmas. -/
import Derived.Lib.Strings
import Derived.Lib.Slices
import Derived.Lib.Walk
import Derived.Lib.Bytealg
import Derived.Test.YtfdmnogfflcllaaGreatDoorM01
set_option linter.unusedVariables false
set_option linter.unusedSimpArgs false
set_option maxRecDepth 100000
set_option maxHeartbeats 20000000
namespace Go.Proofs.YtfdmnogfflcllaaGreatDoor
open Go.Proofs.Tryz Go.RowKit Go.Shelf
theorem BN{p:Prop}(h:p:=by
 gi_wp2_with (refine⟨bq,?_⟩)
 go_ret;exact⟨by rw[m.out];first|rfl|simp,rfl⟩):p:=h
theorem JW(s:ByteArray)(c:Int)(w:World):
 Calls prog 298 #[.string s,.int .u8 c] w fun e w'=>e=.returned (.int .i64 (Lib.indexByte s.data.toList c.toNat.toUInt8))/\w'=w:=by
 go_enter func298,ntmps298;go_wp2;rw[run_callFunc_extern func300 oF oF oF (e:=Extern.BytealgIndexByte.indexByte) oF,Lib.run_indexByteString];simp only[Result.andThen];rw[Oper.upon_value];go_wp2;go_ret;exact⟨rfl,rfl⟩
theorem JY(s:ByteArray)(c:Int)(w:World):
 Calls prog 294 #[.string s,.int .u8 c] w fun e w'=>e=.returned (.int .i64 (Lib.indexByte s.data.toList c.toNat.toUInt8))/\w'=w:=by
 go_enter func294,ntmps294;go_wp2_with (go_at_call 298;refine(JW _ _ _).mono ?_;rintro e w' ⟨rfl,rfl⟩);go_ret;exact⟨rfl,rfl⟩
def jM(b:Int):Bool:=decide (97<=b/\b<=122\/65<=b/\b<=90)
def vH(b:Int):Bool:=decide (48<=b/\b<=57)
def signs:List UInt8:= [123,125,40,41,59,44,61,58,46,60,62,33,43,45,42,47]
def pU(b:Int):Int:=if jM b then 2 else if vH b then 3 else if b=95 then 5 else if b=32\/b=9\/b=10\/b=13 then 1 else if 0<=Lib.indexByte signs b.toNat.toUInt8 then 4 else 0
theorem uo(b:Int)(w:World):Calls prog 284 #[.int .u8 b] w fun e w'=>e=.returned (.int .i64 (pU b))/\w=w':=by
 refine wid ?_;refine ent func284 rfl ntmps284 ?_
 gi_wp2_with (first
  |(refine Cl 294 (JY _ _ _) ?_;rintro e w' ⟨rfl,rfl⟩)
  |fail)
 all_goals(go_ret;refine⟨gM Ending.returned (gM (Value.int IntKind.i64) ?_),rfl⟩)
 all_goals(unfold pU jM vH signs;grind)
def mX(s:ByteArray)(k:Nat):Int:=if h:k<s.size then((s[k]'h).toNat:Int)else 0
theorem wY{s:ByteArray}{k:Nat}(h:k<s.size):((s[k]'h).toNat:Int)=mX s k:=by unfold mX;rw[dif_pos h]
def mY(b:Int):Bool:=jM b||vH b||decide (b=95)
def nameB(s:ByteArray):Bool:=decide (0<s.size/\s.size<=32)&&jM (mX s 0)&&(List.range s.size).all fun k=>mY (mX s k)
theorem FP(b:Int):pU b=2↔jM b=true:=by
 unfold pU;cases jM b
 ·simp only[fT,nA]
  repeat' split
  all_goals simp
 simp
theorem BZ(b:Int):(pU b=2\/pU b=3\/pU b=5)↔mY b=true:=by
 unfold pU mY;cases jM b
 ·cases vH b
  ·by_cases h:b=95;·simp[h]
   simp only[fT,nA,h]
   repeat' split
   all_goals simp
  simp
 simp
theorem toList_nil(s:ByteArray):s.toList= []↔s.size=0:=by rw[Lib.toList_data,Lib.size_eq,c_]
theorem FT(s:ByteArray)(w:World):Calls prog 267 #[.string s] w fun e w'=>e=.returned (.bool (nameB s))/\w=w':=by
 refine wid ?_;by_cases R:s.size=0;·have o:=(toList_nil s).2 R;have m:=Hd (show nameB s=false by unfold nameB;simp[R]);clear R;refine ent func267 rfl ntmps267 ?_;exact BN
 have o:¬s.toList= []:=fun h=>R ((toList_nil s).1 h);have A:s.toList.isEmpty=false:=by cases h:s.toList with
  |nil=>exact absurd h o
  |cons=>rfl
 by_cases p:s.size<=32
 ·have u:(s.size:Int)<=32:=oE;have D:0<s.size:=oE;have x:=wY D;obtain⟨b0,l⟩:=aC (mX s 0);rw[l]at x;obtain⟨g,f⟩:=aC (pU b0);have II:=Hd f;cases q:jM b0
  ·have a:¬g=2:=fun e=>by rw[<-f,FP,q]at e;cases e
   have E:(g !=2)=true:=by simpa using a
   have m:=Hd (show nameB s=false by unfold nameB;rw[l,q];simp);clear f q R;refine ent func267 rfl ntmps267 ?_
   gi_wp2_with (first
    |(refine Cl 284 (uo _ _) ?_;rintro e w' ⟨rfl,rfl⟩;rw[II.out])
    |fail)
   go_ret;exact⟨by rw[m.out];first|rfl|simp,rfl⟩
  have a:g=2:=by rw[<-f,FP,q]
  subst a;have HL:=Hd (show nameB s=(List.range s.size).all fun k=>mY (mX s k) by unfold nameB;rw[l,q];simp[D,p]);clear f q R;refine ent func267 rfl ntmps267 ?_
  gi_wp2_with (first
   |(refine Cl 284 (uo _ _) ?_;rintro e w' ⟨rfl,rfl⟩;rw[II.out])
   |fail)
  gi_loopw[20] (fun i wr=>∃k:Nat,k<=s.size/\i=.int .i64 k/\w=wr/\Hid (∀j,j<k->mY (mX s j)=true)) (fun i _=>s.size-(intOf i).toNat);case atStart=>exact⟨0,bO _,rfl,rfl,Hd (fun j n=>by omega)⟩
  case round=>
   obtain⟨k,C,rfl,rfl,B⟩:=hrel;by_cases r:k<s.size
   ·have y:=wY r;obtain⟨b,hb⟩:=aC (mX s k);rw[hb]at y;obtain⟨c,I⟩:=aC (pU b);have t:=Hd I;cases d:mY b
    ·have m:=Hd (show nameB s=false by
       rw[HL.out];cases v:(List.range s.size).all fun k=>mY (mX s k);·rfl
       ·have:=cQ.1 v k (fy.2 r);rw[hb,d]at this;cases this)
     have a:¬(c=2\/c=3\/c=5):=fun e=>by rw[<-I,BZ,d]at e;cases e
     have F:(c !=2)=true:=by simpa using fun e=>a (.inl e)
     have G:(c !=3)=true:=by simpa using fun e=>a (.inr (.inl e))
     have n5:(c !=5)=true:=by simpa using fun e=>a (.inr (.inr e))
     clear I d hb a
     gi_wp2_with (first
      |(refine Cl 284 (uo _ _) ?_;rintro e w' ⟨rfl,rfl⟩;rw[t.out])
      |fail)
     go_ret;exact⟨by rw[m.out];first|rfl|simp,rfl⟩
    have z:=Hd (show ∀j,j<k+1->mY (mX s j)=true from fun j n=>by
     by_cases e:j=k;·rw[e,hb];exact d
     exact B.out j oE)
    have a:c=2\/c=3\/c=5:=by rw[<-I,BZ];exact d
    clear I d hb;rcases a with rfl|rfl|rfl
    all_goals
     gi_wp2_with (first
      |(refine Cl 284 (uo _ _) ?_;rintro e w' ⟨rfl,rfl⟩;rw[t.out])
      |fail)
     exact⟨⟨k+1,oE,by go_num,bq,z⟩,by simp[intOf];omega⟩
   ·have m:=Hd (show nameB s=true by
      rw[HL.out,cQ];intro j n;exact B.out j (by have:=fy.1 n;omega))
    gi_wp2;go_ret;exact⟨by rw[m.out];first|rfl|simp,rfl⟩
 have u:¬(s.size:Int)<=32:=oE;have m:=Hd (show nameB s=false by unfold nameB;simp[p]);clear R;refine ent func267 rfl ntmps267 ?_;exact BN
