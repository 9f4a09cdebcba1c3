/- Lemmas and walks; no statement is proved here. -/
import Derived.Lib.Strings
import Derived.Lib.Slices
import Derived.Lib.Walk
import Derived.Lib.Bytealg
import Derived.Test.YtefnknhjlejalaaGreatDoorM01
set_option linter.unusedVariables false
set_option linter.unusedSimpArgs false
set_option maxRecDepth 20000
set_option maxHeartbeats 6000000
namespace Go.Proofs.YtefnknhjlejalaaGreatDoor
open Go.Proofs.Tryz Go.RowKit Go.Shelf
theorem aes{p:Prop}(h:p:=by
 clear h0;refine ent func202 rfl ntmps202 ?_;gi_wp2_with (refine⟨trivial,?_⟩)
 go_ret;exact⟨by rw[HR.out];first|rfl|simp,rfl⟩):p:=h
set_option maxRecDepth 100000 in
theorem JW(s:ByteArray)(c:Int)(w:World):
 Calls prog 234 #[.string s,.int .u8 c] w fun e w'=>e=.returned (.int .i64 (Lib.indexByte s.data.toList c.toNat.toUInt8))/\w'=w:=by
 go_enter func234,ntmps234;go_wp2;rw[run_callFunc_extern func237 (by kernel_rfl) (by kernel_rfl) (by kernel_rfl) (e:=Extern.BytealgIndexByte.indexByte) (by kernel_rfl),Lib.run_indexByteString];simp only[Result.andThen];rw[Oper.upon_value];go_wp2;go_ret;exact⟨rfl,rfl⟩
theorem JY(s:ByteArray)(c:Int)(w:World):
 Calls prog 225 #[.string s,.int .u8 c] w fun e w'=>e=.returned (.int .i64 (Lib.indexByte s.data.toList c.toNat.toUInt8))/\w'=w:=by
 go_enter func225,ntmps225;go_wp2_with (go_at_call 234;refine(JW _ _ _).mono ?_;rintro e w' ⟨rfl,rfl⟩);go_ret;exact⟨rfl,rfl⟩
def jM(b:Int):Bool:=decide (97<=b/\b<=122\/65<=b/\b<=90)
def vH(b:Int):Bool:=decide (48<=b/\b<=57)
def signs:List UInt8:= [123,125,40,41,59,44,61,58,46,60,62,33,43,45,42,47]
def pU(b:Int):Int:=if jM b then 2 else if vH b then 3 else if b=95 then 5 else if b=32\/b=9\/b=10\/b=13 then 1 else if 0<=Lib.indexByte signs b.toNat.toUInt8 then 4 else 0
theorem uo(b:Int)(w:World):Calls prog 211 #[.int .u8 b] w fun e w'=>e=.returned (.int .i64 (pU b))/\w=w':=by
 refine wid ?_;refine ent func211 rfl ntmps211 ?_
 gi_wp2_with (first
  |(refine Cl 225 (JY _ _ _) ?_;rintro e w' ⟨rfl,rfl⟩)
  |fail)
 all_goals(go_ret;refine⟨congrArg Ending.returned (congrArg (Value.int IntKind.i64) ?_),rfl⟩)
 all_goals(unfold pU jM vH signs;grind)
def mX(s:ByteArray)(k:Nat):Int:=if h:k<s.size then((s[k]'h).toNat:Int)else 0
theorem wY{s:ByteArray}{k:Nat}(h:k<s.size):((s[k]'h).toNat:Int)=mX s k:=by unfold mX;rw[dif_pos h]
def mY(b:Int):Bool:=jM b||vH b||decide (b=95)
def nameB(s:ByteArray):Bool:=decide (0<s.size/\s.size<=32)&&jM (mX s 0)&&(List.range s.size).all fun k=>mY (mX s k)
theorem FP(b:Int):pU b=2↔jM b=true:=by
 unfold pU;cases jM b
 ·simp only[Bool.false_eq_true,if_false]
  repeat' split
  all_goals simp
 simp
theorem BZ(b:Int):(pU b=2\/pU b=3\/pU b=5)↔mY b=true:=by
 unfold pU mY;cases jM b
 ·cases vH b
  ·by_cases h:b=95;·simp[h]
   simp only[Bool.false_eq_true,if_false,h]
   repeat' split
   all_goals simp
  simp
 simp
theorem toList_nil(s:ByteArray):s.toList= []↔s.size=0:=by rw[Lib.toList_data,Lib.size_eq,List.length_eq_zero_iff]
set_option maxHeartbeats 8000000 in
theorem FT(s:ByteArray)(w:World):Calls prog 202 #[.string s] w fun e w'=>e=.returned (.bool (nameB s))/\w=w':=by
 refine wid ?_;by_cases h0:s.size=0;·have h1:=(toList_nil s).2 h0;have HR:=Hd (show nameB s=false by unfold nameB;simp[h0]);exact aes
 have h1:¬s.toList= []:=fun h=>h0 ((toList_nil s).1 h);have hE:s.toList.isEmpty=false:=by cases h:s.toList with
  |nil=>exact absurd h h1
  |cons=>rfl
 by_cases h2:s.size<=32
 ·have h3:(s.size:Int)<=32:=by omega
  have h4:0<s.size:=by omega
  have hq:=wY h4;obtain⟨b0,hb0⟩:=aC (mX s 0);rw[hb0]at hq;obtain⟨c0,hc0⟩:=aC (pU b0);have II:=Hd hc0;cases hl:jM b0
  ·have hn:¬c0=2:=fun e=>by rw[<-hc0,FP,hl]at e;cases e
   have hn2:(c0 !=2)=true:=by simpa using hn
   have HR:=Hd (show nameB s=false by unfold nameB;rw[hb0,hl];simp);clear hc0 hl h0;refine ent func202 rfl ntmps202 ?_
   gi_wp2_with (first
    |(refine Cl 211 (uo _ _) ?_;rintro e w' ⟨rfl,rfl⟩;rw[II.out])
    |fail)
   go_ret;exact⟨by rw[HR.out];first|rfl|simp,rfl⟩
  have hn:c0=2:=by rw[<-hc0,FP,hl]
  subst hn;have HL:=Hd (show nameB s=(List.range s.size).all fun k=>mY (mX s k) by unfold nameB;rw[hb0,hl];simp[h4,h2]);clear hc0 hl h0;refine ent func202 rfl ntmps202 ?_
  gi_wp2_with (first
   |(refine Cl 211 (uo _ _) ?_;rintro e w' ⟨rfl,rfl⟩;rw[II.out])
   |fail)
  gi_loopw[20] (fun i wr=>∃k:Nat,k<=s.size/\i=.int .i64 k/\w=wr/\Hid (∀j,j<k->mY (mX s j)=true)) (fun i _=>s.size-(intOf i).toNat);case atStart=>exact⟨0,Nat.zero_le _,rfl,rfl,Hd (fun j hj=>by omega)⟩
  case round=>
   obtain⟨k,hk,rfl,rfl,hr⟩:=hrel;by_cases hlt:k<s.size
   ·have hq2:=wY hlt;obtain⟨b,hb⟩:=aC (mX s k);rw[hb]at hq2;obtain⟨c,hc⟩:=aC (pU b);have HC:=Hd hc;cases hp:mY b
    ·have HR:=Hd (show nameB s=false by
       rw[HL.out];cases hal:(List.range s.size).all fun k=>mY (mX s k);·rfl
       ·have:=List.all_eq_true.1 hal k (List.mem_range.2 hlt);rw[hb,hp]at this;cases this)
     have hn:¬(c=2\/c=3\/c=5):=fun e=>by rw[<-hc,BZ,hp]at e;cases e
     have n2:(c !=2)=true:=by simpa using fun e=>hn (.inl e)
     have n3:(c !=3)=true:=by simpa using fun e=>hn (.inr (.inl e))
     have n5:(c !=5)=true:=by simpa using fun e=>hn (.inr (.inr e))
     clear hc hp hb hn
     gi_wp2_with (first
      |(refine Cl 211 (uo _ _) ?_;rintro e w' ⟨rfl,rfl⟩;rw[HC.out])
      |fail)
     go_ret;exact⟨by rw[HR.out];first|rfl|simp,rfl⟩
    have hr2:=Hd (show ∀j,j<k+1->mY (mX s j)=true from fun j hj=>by
     by_cases e:j=k;·rw[e,hb];exact hp
     exact hr.out j (by omega))
    have hn:c=2\/c=3\/c=5:=by rw[<-hc,BZ];exact hp
    clear hc hp hb;rcases hn with rfl|rfl|rfl
    all_goals
     gi_wp2_with (first
      |(refine Cl 211 (uo _ _) ?_;rintro e w' ⟨rfl,rfl⟩;rw[HC.out])
      |fail)
     exact⟨⟨k+1,by omega,by go_num,trivial,hr2⟩,by simp[intOf];omega⟩
   ·have HR:=Hd (show nameB s=true by
      rw[HL.out,List.all_eq_true];intro j hj;exact hr.out j (by have:=List.mem_range.1 hj;omega))
    gi_wp2;go_ret;exact⟨by rw[HR.out];first|rfl|simp,rfl⟩
 have h3:¬(s.size:Int)<=32:=by omega
 have HR:=Hd (show nameB s=false by unfold nameB;simp[h2]);exact aes
end Go.Proofs.YtefnknhjlejalaaGreatDoor
