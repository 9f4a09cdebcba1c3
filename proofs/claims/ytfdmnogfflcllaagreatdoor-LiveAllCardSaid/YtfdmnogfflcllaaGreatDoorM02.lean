/- Lemmas -/
import Derived.Lib.Slices
import Derived.Lib.Walk
import Derived.Lib.Bytealg
import Derived.Test.YtfdmnogfflcllaaGreatDoorM01
set_option linter.all false
set_option maxRecDepth 100000
set_option maxHeartbeats 0
namespace Go.Proofs.YtfdmnogfflcllaaGreatDoor
open Go.Proofs.Tryz Go.RowKit Go.Shelf
theorem JE{p:Prop}(h:p:=by
 clear V;refine ent func267 ntmps267 ?_;gi_wp2_with (refine⟨bO,?_⟩)
 go_ret;exact⟨by rw[n.out];first|rfl|simp,rfl⟩):p:=h
theorem JW(s:ByteArray)(c:Int)(w:World):
 Calls prog 298 #[s,.int .u8 c] w fun e w'=>e=.returned (.int .i64 (Lib.indexByte s.data.toList c.toNat.toUInt8))/\w'=w:=by
 go_enter func298,ntmps298;go_wp2;rw[run_callFunc_extern func300 pk pk pk (e:=Extern.BytealgIndexByte.indexByte) pk,Lib.run_indexByteString];simp only[Result.andThen];rw[Oper.upon_value];go_wp2;go_ret;exact⟨rfl,rfl⟩
theorem JY(s:ByteArray)(c:Int)(w:World):
 Calls prog 294 #[s,.int .u8 c] w fun e w'=>e=.returned (.int .i64 (Lib.indexByte s.data.toList c.toNat.toUInt8))/\w'=w:=by
 go_enter func294,ntmps294;go_wp2_with (go_at_call 298;refine(JW _ _ _).mono ?_;rintro e w' ⟨rfl,rfl⟩);go_ret;exact⟨rfl,rfl⟩
def jM(b:Int):Bool:=decide (97<=b/\b<=122\/65<=b/\b<=90)
def vH(b:Int):Bool:=decide (48<=b/\b<=57)
def signs:List UInt8:= [123,125,40,41,59,44,61,58,46,60,62,33,43,45,42,47]
def pU(b:Int):Int:=if jM b then 2 else if vH b then 3 else if b=95 then 5 else if b=32\/b=9\/b=10\/b=13 then 1 else if 0<=Lib.indexByte signs b.toNat.toUInt8 then 4 else 0
theorem uo(b:Int)(w:World):Calls prog 284 #[.int .u8 b] w fun e w'=>e=.returned (.int .i64 (pU b))/\w=w':=by
 refine wid ?_;refine ent func284 ntmps284 ?_
 gi_wp2_with (first
  |(refine Cl 294 (JY _ _ _) ?_;rintro e w' ⟨rfl,rfl⟩)
  |fail)
 all_goals(go_ret;refine⟨gT Ending.returned (gT (Value.int IntKind.i64) ?_),rfl⟩)
 all_goals(unfold pU jM vH signs;grind)
def mX(s:ByteArray)(k:Nat):Int:=if h:k<s.size then((s[k]'h).toNat:Int)else 0
theorem wY{s:ByteArray}{k:Nat}(h:k<s.size):((s[k]'h).toNat:Int)=mX s k:=by unfold mX;rw[dif_pos h]
def mY(b:Int):Bool:=jM b||vH b||decide (b=95)
def nameB(s:ByteArray):Bool:=decide (0<s.size/\s.size<=32)&&jM (mX s 0)&&(List.range s.size).all fun k=>mY (mX s k)
theorem FP(b:Int):pU b=2↔jM b=true:=by
 unfold pU;cases jM b
 ·simp only[gm,oB]
  repeat' split
  all_goals simp
 simp
theorem BZ(b:Int):(pU b=2\/pU b=3\/pU b=5)↔mY b=true:=by
 unfold pU mY;cases jM b
 ·cases vH b
  ·by_cases h:b=95;·simp[h]
   simp only[gm,oB,h]
   repeat' split
   all_goals simp
  simp
 simp
theorem toList_nil(s:ByteArray):s.toList= []↔s.size=0:=by rw[Lib.toList_data,Lib.size_eq,de]
theorem FT(s:ByteArray)(w:World):Calls prog 267 #[s] w fun e w'=>e=.returned (.bool (nameB s))/\w=w':=by
 refine wid ?_;by_cases V:s.size=0;·have m:=(toList_nil s).2 V;have n:=Hd (show nameB s=false by unfold nameB;simp[V]);exact JE
 have m:¬s.toList= []:=fun h=>V ((toList_nil s).1 h);have z:s.toList.isEmpty=false:=by cases h:s.toList with
  |nil=>exact absurd h m
  |cons=>rfl
 by_cases o:s.size<=32
 ·have q:(s.size:Int)<=32:=pj;have F:0<s.size:=pj;have v:=wY F;obtain⟨b0,l⟩:=aC (mX s 0);rw[l]at v;obtain⟨g,f⟩:=aC (pU b0);have II:=Hd f;cases r:jM b0
  ·have a:¬g=2:=fun e=>by rw[<-f,FP,r]at e;cases e
   have D:(g !=2)=true:=by simpa using a
   have n:=Hd (show nameB s=false by unfold nameB;rw[l,r];simp);clear f r V;refine ent func267 ntmps267 ?_
   gi_wp2_with (first
    |(refine Cl 284 (uo _ _) ?_;rintro e w' ⟨rfl,rfl⟩;rw[II.out])
    |fail)
   go_ret;exact⟨by rw[n.out];first|rfl|simp,rfl⟩
  have a:g=2:=by rw[<-f,FP,r]
  subst a;have HL:=Hd (show nameB s=(List.range s.size).all fun k=>mY (mX s k) by unfold nameB;rw[l,r];simp[F,o]);clear f r V;refine ent func267 ntmps267 ?_
  gi_wp2_with (first
   |(refine Cl 284 (uo _ _) ?_;rintro e w' ⟨rfl,rfl⟩;rw[II.out])
   |fail)
  gi_loopw[20] (fun i wr=>∃k:Nat,k<=s.size/\i=k/\w=wr/\Hid (∀j,j<k->mY (mX s j)=true)) (fun i _=>s.size-(intOf i).toNat);case atStart=>exact⟨0,cf _,rfl,rfl,Hd (fun j C=>by omega)⟩
  case round=>
   obtain⟨k,B,rfl,rfl,A⟩:=hrel;by_cases p:k<s.size
   ·have x:=wY p;obtain⟨b,hb⟩:=aC (mX s k);rw[hb]at x;obtain⟨c,K⟩:=aC (pU b);have t:=Hd K;cases d:mY b
    ·have n:=Hd (show nameB s=false by
       rw[HL.out];cases u:(List.range s.size).all fun k=>mY (mX s k);·rfl
       ·have:=cT.1 u k (ga.2 p);rw[hb,d]at this;cases this)
     have a:¬(c=2\/c=3\/c=5):=fun e=>by rw[<-K,BZ,d]at e;cases e
     have E:(c !=2)=true:=by simpa using fun e=>a (.inl e)
     have G:(c !=3)=true:=by simpa using fun e=>a (.inr (.inl e))
     have n5:(c !=5)=true:=by simpa using fun e=>a (.inr (.inr e))
     clear K d hb a
     gi_wp2_with (first
      |(refine Cl 284 (uo _ _) ?_;rintro e w' ⟨rfl,rfl⟩;rw[t.out])
      |fail)
     go_ret;exact⟨by rw[n.out];first|rfl|simp,rfl⟩
    have y:=Hd (show ∀j,j<k+1->mY (mX s j)=true from fun j C=>by
     by_cases e:j=k;·rw[e,hb];exact d
     exact A.out j pj)
    have a:c=2\/c=3\/c=5:=by rw[<-K,BZ];exact d
    clear K d hb;rcases a with rfl|rfl|rfl
    all_goals
     gi_wp2_with (first
      |(refine Cl 284 (uo _ _) ?_;rintro e w' ⟨rfl,rfl⟩;rw[t.out])
      |fail)
     exact⟨⟨k+1,pj,by go_num,bO,y⟩,by simp[intOf];omega⟩
   ·have n:=Hd (show nameB s=true by
      rw[HL.out,cT];intro j C;exact A.out j (by have:=ga.1 C;omega))
    gi_wp2;go_ret;exact⟨by rw[n.out];first|rfl|simp,rfl⟩
 have q:¬(s.size:Int)<=32:=pj;have n:=Hd (show nameB s=false by unfold nameB;simp[o]);exact JE
