/- Lemmas and walks; no statement is proved here. -/
import Derived.Test.YtlcgbfkdnmdigaaGreatDoorM23
import Derived.Test.YtlcgbfkdnmdigaaGreatDoorM28
set_option linter.unusedVariables false
set_option linter.unusedSimpArgs false
set_option maxRecDepth 20000
set_option maxHeartbeats 6000000
namespace Go.Proofs.YtlcgbfkdnmdigaaGreatDoor
open Go.Proofs.Tryz Go.RowKit Go.Shelf
theorem afI{p:Prop}(h:p:=by
 rcases r4 with r4|r4;·rw[r4]at e;have h4:=(h.own.lt e).1;omega
 rw[r4]at e;have:=Option.some.inj e;have:=h.kp.size;omega):p:=h
variable {s:ByteArray}{s1 s2 s3 s4 s5 s6 s7:dK}{q:Nat}
theorem sW(b:Int)(w:World):Calls prog 196 #[.int .u8 b] w fun e w'=>e=.returned (.bool (jM b))/\w=w':=by
 refine wid ?_;by_cases h1:97<=b<;>by_cases h2:b<=122<;>by_cases h3:65<=b<;>by_cases h4:b<=90
 all_goals
  refine ent func196 rfl ntmps196 ?_;gi_wp2;go_ret;exact⟨by simp[jM,h1,h2,h3,h4],rfl⟩
theorem Kw(b:Int)(w:World):Calls prog 237 #[.int .u8 b] w fun e w'=>e=.returned (.bool (vH b))/\w=w':=by
 refine wid ?_;by_cases h1:48<=b<;>by_cases h2:b<=57
 all_goals
  refine ent func237 rfl ntmps237 ?_;gi_wp2;go_ret;exact⟨by simp[vH,h1,h2],rfl⟩
theorem GI(b:Int)(w:World):Calls prog 197 #[.int .u8 b] w fun e w'=>e=.returned (.bool (mY b))/\w=w':=by
 refine wid ?_;obtain⟨c1,h1⟩:=aC (jM b);obtain⟨c2,h2⟩:=aC (vH b);obtain⟨c3,h3⟩:=aC (b==95);have HR:=Hd (show mY b=(c1||c2||c3) by rw[mY,h1,h2,<-h3];by_cases e:b=95<;>simp[e]);have H1:=Hd h1;have H2:=Hd h2;clear h1 h2;cases c3<;>cases c1<;>cases c2
 all_goals
  refine ent func197 rfl ntmps197 ?_
  gi_wp2_with (first
   |(refine Cl 237 (Kw _ _) ?_;rintro e w' ⟨rfl,rfl⟩;rw[H2.out])
   |(refine Cl 196 (sW _ _) ?_;rintro e w' ⟨rfl,rfl⟩;rw[H1.out])
   |(refine⟨trivial,?_⟩))
  go_ret;exact⟨by rw[HR.out];first|rfl|simp[h3],rfl⟩
theorem Rn(s:ByteArray)(w:World):Calls prog 143 #[.string s] w fun e w'=>e=.returned (.bool (nameB s))/\w=w':=by
 refine wid ?_;by_cases h0:s.size=0;·have HR:=Hd (show nameB s=false by unfold nameB;simp[h0]);refine ent func143 rfl ntmps143 ?_;exact ae2
 have h4:0<s.size:=by omega
 have h5:¬(s.size:Int)<1:=by omega
 by_cases h2:s.size<=32
 ·have h3:¬(s.size:Int)>32:=by omega
  have hq:=wY h4;obtain⟨b0,hb0⟩:=aC (mX s 0);rw[hb0]at hq;obtain⟨c0,hc0⟩:=aC (jM b0);have II:=Hd hc0;cases c0
  ·have HR:=Hd (show nameB s=false by unfold nameB;rw[hb0,hc0];simp);clear hc0 h0;refine ent func143 rfl ntmps143 ?_
   gi_wp2_with (first
    |(refine Cl 196 (sW _ _) ?_;rintro e w' ⟨rfl,rfl⟩;rw[II.out])
    |fail)
   go_ret;exact⟨by rw[HR.out];first|rfl|simp,rfl⟩
  have HL:=Hd (show nameB s=(List.range s.size).all fun k=>mY (mX s k) by unfold nameB;rw[hb0,hc0];simp[h4,h2]);clear hc0 h0;refine ent func143 rfl ntmps143 ?_
  gi_wp2_with (first
   |(refine Cl 196 (sW _ _) ?_;rintro e w' ⟨rfl,rfl⟩;rw[II.out])
   |fail)
  gi_loopw[3] (fun i wr=>∃k:Nat,k<=s.size/\i=.int .i64 k/\w=wr/\Hid (∀j,j<k->mY (mX s j)=true)) (fun i _=>s.size-(intOf i).toNat);case atStart=>exact⟨0,Nat.zero_le _,rfl,rfl,Hd (fun j hj=>by omega)⟩
  case round=>
   obtain⟨k,hk,rfl,rfl,hr⟩:=hrel;by_cases hlt:k<s.size
   ·have hq2:=wY hlt;obtain⟨b,hb⟩:=aC (mX s k);rw[hb]at hq2;obtain⟨c,hc⟩:=aC (mY b);have HC:=Hd hc;cases c
    ·have HR:=Hd (show nameB s=false by
       rw[HL.out];cases hal:(List.range s.size).all fun k=>mY (mX s k);·rfl
       ·have:=List.all_eq_true.1 hal k (List.mem_range.2 hlt);rw[hb,hc]at this;cases this)
     clear hc hb
     gi_wp2_with (first
      |(refine Cl 197 (GI _ _) ?_;rintro e w' ⟨rfl,rfl⟩;rw[HC.out])
      |fail)
     go_ret;exact⟨by rw[HR.out];first|rfl|simp,rfl⟩
    have hr2:=Hd (show ∀j,j<k+1->mY (mX s j)=true from fun j hj=>by
     by_cases e:j=k;·rw[e,hb];exact hc
     exact hr.out j (by omega))
    clear hc hb
    gi_wp2_with (first
     |(refine Cl 197 (GI _ _) ?_;rintro e w' ⟨rfl,rfl⟩;rw[HC.out])
     |fail)
    exact afj
   ·exact afh
 have h3:(s.size:Int)>32:=by omega
 have HR:=Hd (show nameB s=false by unfold nameB;simp[h2]);clear h0;refine ent func143 rfl ntmps143 ?_;exact ae2
theorem bf{l:List UInt8}(h:(s.toList==l)=true)(hm:gY.any (fun y=>y.data.toList==l)=true):Ud s gY=true:=by rw[Lib.toList_data,beq_iff_eq]at h;obtain⟨y,hy,e⟩:=List.any_eq_true.1 hm;have e1:s=y:=ByteArray.ext (Array.toList_inj.1 (by rw[h];exact(eq_of_beq e).symm));rw[e1];exact PX hy
def U8:List (List UInt8):= [[99,111,109,112,101,116,105,116,105,111,110], [99,114,105,116,101,114,105,111,110], [102,114,111,109], [116,111], [115,116,101,112], [115,117,109], [109,101,97,110], [116,114,105,109], [109,101,100,105,97,110], [114,101,118,101,114,115,101], [98,111,110,117,115], [118,97,108,117,101], [109,111,115,116], [109,97,108,117,115], [116,105,101], [116,111,116,97,108], [115,99,111,114,101], [104,105,103,104,101,115,116], [114,117,108,101], [108,111,116], [114,111,117,110,100], [112,97,110,101,108], [113,117,111,116,97], [111,118,101,114], [117,110,100,101,114], [108,111,116,115], [102,114,101,101], [112,108,97,99,101,115], [112,114,105,122,101,115], [112,111,105,110,116,115], [98,101,115,116], [108,101,97,115,116], [103,114,101,97,116,101,115,116], [105,102], [117,112,116,111], [116,104,101,110], [101,108,115,101], [101,110,100]]
theorem Yb(h:∀l,l∈U8->(s.toList==l)=false):Ud s gY=false:=by
 refine Uk fun hm=>?_;have hk:(gY.all fun y=>U8.any fun l=>y.data.toList==l)=true:=by decide+kernel
 obtain⟨l,hl,e⟩:=List.any_eq_true.1 (List.all_eq_true.1 hk s hm);have:=h l hl;rw[Lib.toList_data,e]at this;cases this
theorem U9(s:ByteArray)(w:World):Calls prog 144 #[.string s] w fun e w'=>e=.returned (.bool (Ud s gY))/\w=w':=by
 refine wid ?_;rcases Bool.eq_false_or_eq_true (s.toList== [99,111,109,112,101,116,105,116,105,111,110])with h0|h0;·have HR:=Hd (bf (l:= [99,111,109,112,101,116,105,116,105,111,110]) h0 (by decide+kernel));refine ent func144 rfl ntmps144 ?_;gi_wp2;go_ret;exact⟨by rw[HR.out];first|rfl|simp[h0],rfl⟩
 rcases Bool.eq_false_or_eq_true (s.toList== [99,114,105,116,101,114,105,111,110])with h1|h1;·have HR:=Hd (bf (l:= [99,114,105,116,101,114,105,111,110]) h1 (by decide+kernel));refine ent func144 rfl ntmps144 ?_;gi_wp2;go_ret;exact⟨by rw[HR.out];first|rfl|simp[h1],rfl⟩
 rcases Bool.eq_false_or_eq_true (s.toList== [102,114,111,109])with h2|h2;·have HR:=Hd (bf (l:= [102,114,111,109]) h2 (by decide+kernel));refine ent func144 rfl ntmps144 ?_;gi_wp2;go_ret;exact⟨by rw[HR.out];first|rfl|simp[h2],rfl⟩
 rcases Bool.eq_false_or_eq_true (s.toList== [116,111])with h3|h3;·have HR:=Hd (bf (l:= [116,111]) h3 (by decide+kernel));refine ent func144 rfl ntmps144 ?_;gi_wp2;go_ret;exact⟨by rw[HR.out];first|rfl|simp[h3],rfl⟩
 rcases Bool.eq_false_or_eq_true (s.toList== [115,116,101,112])with h4|h4;·have HR:=Hd (bf (l:= [115,116,101,112]) h4 (by decide+kernel));refine ent func144 rfl ntmps144 ?_;gi_wp2;go_ret;exact⟨by rw[HR.out];first|rfl|simp[h4],rfl⟩
 rcases Bool.eq_false_or_eq_true (s.toList== [115,117,109])with h5|h5;·have HR:=Hd (bf (l:= [115,117,109]) h5 (by decide+kernel));refine ent func144 rfl ntmps144 ?_;gi_wp2;go_ret;exact⟨by rw[HR.out];first|rfl|simp[h5],rfl⟩
 rcases Bool.eq_false_or_eq_true (s.toList== [109,101,97,110])with h6|h6;·have HR:=Hd (bf (l:= [109,101,97,110]) h6 (by decide+kernel));refine ent func144 rfl ntmps144 ?_;gi_wp2;go_ret;exact⟨by rw[HR.out];first|rfl|simp[h6],rfl⟩
 rcases Bool.eq_false_or_eq_true (s.toList== [116,114,105,109])with h7|h7;·have HR:=Hd (bf (l:= [116,114,105,109]) h7 (by decide+kernel));refine ent func144 rfl ntmps144 ?_;gi_wp2;go_ret;exact⟨by rw[HR.out];first|rfl|simp[h7],rfl⟩
 rcases Bool.eq_false_or_eq_true (s.toList== [109,101,100,105,97,110])with h8|h8;·have HR:=Hd (bf (l:= [109,101,100,105,97,110]) h8 (by decide+kernel));refine ent func144 rfl ntmps144 ?_;gi_wp2;go_ret;exact⟨by rw[HR.out];first|rfl|simp[h8],rfl⟩
 rcases Bool.eq_false_or_eq_true (s.toList== [114,101,118,101,114,115,101])with h9|h9;·have HR:=Hd (bf (l:= [114,101,118,101,114,115,101]) h9 (by decide+kernel));refine ent func144 rfl ntmps144 ?_;gi_wp2;go_ret;exact⟨by rw[HR.out];first|rfl|simp[h9],rfl⟩
 rcases Bool.eq_false_or_eq_true (s.toList== [98,111,110,117,115])with h10|h10;·have HR:=Hd (bf (l:= [98,111,110,117,115]) h10 (by decide+kernel));refine ent func144 rfl ntmps144 ?_;gi_wp2;go_ret;exact⟨by rw[HR.out];first|rfl|simp[h10],rfl⟩
 rcases Bool.eq_false_or_eq_true (s.toList== [118,97,108,117,101])with h11|h11;·have HR:=Hd (bf (l:= [118,97,108,117,101]) h11 (by decide+kernel));refine ent func144 rfl ntmps144 ?_;gi_wp2;go_ret;exact⟨by rw[HR.out];first|rfl|simp[h11],rfl⟩
 rcases Bool.eq_false_or_eq_true (s.toList== [109,111,115,116])with h12|h12;·have HR:=Hd (bf (l:= [109,111,115,116]) h12 (by decide+kernel));refine ent func144 rfl ntmps144 ?_;gi_wp2;go_ret;exact⟨by rw[HR.out];first|rfl|simp[h12],rfl⟩
 rcases Bool.eq_false_or_eq_true (s.toList== [109,97,108,117,115])with h13|h13;·have HR:=Hd (bf (l:= [109,97,108,117,115]) h13 (by decide+kernel));refine ent func144 rfl ntmps144 ?_;gi_wp2;go_ret;exact⟨by rw[HR.out];first|rfl|simp[h13],rfl⟩
 rcases Bool.eq_false_or_eq_true (s.toList== [116,105,101])with h14|h14;·have HR:=Hd (bf (l:= [116,105,101]) h14 (by decide+kernel));refine ent func144 rfl ntmps144 ?_;gi_wp2;go_ret;exact⟨by rw[HR.out];first|rfl|simp[h14],rfl⟩
 rcases Bool.eq_false_or_eq_true (s.toList== [116,111,116,97,108])with h15|h15;·have HR:=Hd (bf (l:= [116,111,116,97,108]) h15 (by decide+kernel));refine ent func144 rfl ntmps144 ?_;gi_wp2;go_ret;exact⟨by rw[HR.out];first|rfl|simp[h15],rfl⟩
 rcases Bool.eq_false_or_eq_true (s.toList== [115,99,111,114,101])with h16|h16;·have HR:=Hd (bf (l:= [115,99,111,114,101]) h16 (by decide+kernel));refine ent func144 rfl ntmps144 ?_;gi_wp2;go_ret;exact⟨by rw[HR.out];first|rfl|simp[h16],rfl⟩
 rcases Bool.eq_false_or_eq_true (s.toList== [104,105,103,104,101,115,116])with h17|h17;·have HR:=Hd (bf (l:= [104,105,103,104,101,115,116]) h17 (by decide+kernel));refine ent func144 rfl ntmps144 ?_;gi_wp2;go_ret;exact⟨by rw[HR.out];first|rfl|simp[h17],rfl⟩
 rcases Bool.eq_false_or_eq_true (s.toList== [114,117,108,101])with h18|h18;·have HR:=Hd (bf (l:= [114,117,108,101]) h18 (by decide+kernel));refine ent func144 rfl ntmps144 ?_;gi_wp2;go_ret;exact⟨by rw[HR.out];first|rfl|simp[h18],rfl⟩
 rcases Bool.eq_false_or_eq_true (s.toList== [108,111,116])with h19|h19;·have HR:=Hd (bf (l:= [108,111,116]) h19 (by decide+kernel));refine ent func144 rfl ntmps144 ?_;gi_wp2;go_ret;exact⟨by rw[HR.out];first|rfl|simp[h19],rfl⟩
 rcases Bool.eq_false_or_eq_true (s.toList== [114,111,117,110,100])with h20|h20;·have HR:=Hd (bf (l:= [114,111,117,110,100]) h20 (by decide+kernel));refine ent func144 rfl ntmps144 ?_;gi_wp2;go_ret;exact⟨by rw[HR.out];first|rfl|simp[h20],rfl⟩
 rcases Bool.eq_false_or_eq_true (s.toList== [112,97,110,101,108])with h21|h21;·have HR:=Hd (bf (l:= [112,97,110,101,108]) h21 (by decide+kernel));refine ent func144 rfl ntmps144 ?_;gi_wp2;go_ret;exact⟨by rw[HR.out];first|rfl|simp[h21],rfl⟩
 rcases Bool.eq_false_or_eq_true (s.toList== [113,117,111,116,97])with h22|h22;·have HR:=Hd (bf (l:= [113,117,111,116,97]) h22 (by decide+kernel));refine ent func144 rfl ntmps144 ?_;gi_wp2;go_ret;exact⟨by rw[HR.out];first|rfl|simp[h22],rfl⟩
 rcases Bool.eq_false_or_eq_true (s.toList== [111,118,101,114])with h23|h23;·have HR:=Hd (bf (l:= [111,118,101,114]) h23 (by decide+kernel));refine ent func144 rfl ntmps144 ?_;gi_wp2;go_ret;exact⟨by rw[HR.out];first|rfl|simp[h23],rfl⟩
 rcases Bool.eq_false_or_eq_true (s.toList== [117,110,100,101,114])with h24|h24;·have HR:=Hd (bf (l:= [117,110,100,101,114]) h24 (by decide+kernel));refine ent func144 rfl ntmps144 ?_;gi_wp2;go_ret;exact⟨by rw[HR.out];first|rfl|simp[h24],rfl⟩
 rcases Bool.eq_false_or_eq_true (s.toList== [108,111,116,115])with h25|h25;·have HR:=Hd (bf (l:= [108,111,116,115]) h25 (by decide+kernel));refine ent func144 rfl ntmps144 ?_;gi_wp2;go_ret;exact⟨by rw[HR.out];first|rfl|simp[h25],rfl⟩
 rcases Bool.eq_false_or_eq_true (s.toList== [102,114,101,101])with h26|h26;·have HR:=Hd (bf (l:= [102,114,101,101]) h26 (by decide+kernel));refine ent func144 rfl ntmps144 ?_;gi_wp2;go_ret;exact⟨by rw[HR.out];first|rfl|simp[h26],rfl⟩
 rcases Bool.eq_false_or_eq_true (s.toList== [112,108,97,99,101,115])with h27|h27;·have HR:=Hd (bf (l:= [112,108,97,99,101,115]) h27 (by decide+kernel));refine ent func144 rfl ntmps144 ?_;gi_wp2;go_ret;exact⟨by rw[HR.out];first|rfl|simp[h27],rfl⟩
 rcases Bool.eq_false_or_eq_true (s.toList== [112,114,105,122,101,115])with h28|h28;·have HR:=Hd (bf (l:= [112,114,105,122,101,115]) h28 (by decide+kernel));refine ent func144 rfl ntmps144 ?_;gi_wp2;go_ret;exact⟨by rw[HR.out];first|rfl|simp[h28],rfl⟩
 rcases Bool.eq_false_or_eq_true (s.toList== [112,111,105,110,116,115])with h29|h29;·have HR:=Hd (bf (l:= [112,111,105,110,116,115]) h29 (by decide+kernel));refine ent func144 rfl ntmps144 ?_;gi_wp2;go_ret;exact⟨by rw[HR.out];first|rfl|simp[h29],rfl⟩
 rcases Bool.eq_false_or_eq_true (s.toList== [98,101,115,116])with h30|h30;·have HR:=Hd (bf (l:= [98,101,115,116]) h30 (by decide+kernel));refine ent func144 rfl ntmps144 ?_;gi_wp2;go_ret;exact⟨by rw[HR.out];first|rfl|simp[h30],rfl⟩
 rcases Bool.eq_false_or_eq_true (s.toList== [108,101,97,115,116])with h31|h31;·have HR:=Hd (bf (l:= [108,101,97,115,116]) h31 (by decide+kernel));refine ent func144 rfl ntmps144 ?_;gi_wp2;go_ret;exact⟨by rw[HR.out];first|rfl|simp[h31],rfl⟩
 rcases Bool.eq_false_or_eq_true (s.toList== [103,114,101,97,116,101,115,116])with h32|h32;·have HR:=Hd (bf (l:= [103,114,101,97,116,101,115,116]) h32 (by decide+kernel));refine ent func144 rfl ntmps144 ?_;gi_wp2;go_ret;exact⟨by rw[HR.out];first|rfl|simp[h32],rfl⟩
 rcases Bool.eq_false_or_eq_true (s.toList== [105,102])with h33|h33;·have HR:=Hd (bf (l:= [105,102]) h33 (by decide+kernel));refine ent func144 rfl ntmps144 ?_;gi_wp2;go_ret;exact⟨by rw[HR.out];first|rfl|simp[h33],rfl⟩
 rcases Bool.eq_false_or_eq_true (s.toList== [117,112,116,111])with h34|h34;·have HR:=Hd (bf (l:= [117,112,116,111]) h34 (by decide+kernel));refine ent func144 rfl ntmps144 ?_;gi_wp2;go_ret;exact⟨by rw[HR.out];first|rfl|simp[h34],rfl⟩
 rcases Bool.eq_false_or_eq_true (s.toList== [116,104,101,110])with h35|h35;·have HR:=Hd (bf (l:= [116,104,101,110]) h35 (by decide+kernel));refine ent func144 rfl ntmps144 ?_;gi_wp2;go_ret;exact⟨by rw[HR.out];first|rfl|simp[h35],rfl⟩
 rcases Bool.eq_false_or_eq_true (s.toList== [101,108,115,101])with h36|h36;·have HR:=Hd (bf (l:= [101,108,115,101]) h36 (by decide+kernel));refine ent func144 rfl ntmps144 ?_;gi_wp2;go_ret;exact⟨by rw[HR.out];first|rfl|simp[h36],rfl⟩
 rcases Bool.eq_false_or_eq_true (s.toList== [101,110,100])with h37|h37;·have HR:=Hd (bf (l:= [101,110,100]) h37 (by decide+kernel));refine ent func144 rfl ntmps144 ?_;gi_wp2;go_ret;exact⟨by rw[HR.out];first|rfl|simp[h37],rfl⟩
 have HR:=Hd (Yb (s:=s) (by simp only[U8,List.mem_cons,List.not_mem_nil,or_false,forall_eq_or_imp,forall_eq];exact⟨h0,h1,h2,h3,h4,h5,h6,h7,h8,h9,h10,h11,h12,h13,h14,h15,h16,h17,h18,h19,h20,h21,h22,h23,h24,h25,h26,h27,h28,h29,h30,h31,h32,h33,h34,h35,h36,h37⟩));refine ent func144 rfl ntmps144 ?_;gi_wp2;go_ret;exact⟨by rw[HR.out];first|rfl|simp[*],rfl⟩
theorem GK(s:ByteArray)(w:World):Calls prog 99 #[.string s] w fun e w'=>e=.returned (.bool (bZ s))/\w=w':=by
 refine wid ?_;obtain⟨c1,h1⟩:=aC (nameB s);obtain⟨c2,h2⟩:=aC (Ud s gY);have HR:=Hd (show bZ s=(c1&& !c2) by rw[bZ,h1,h2]);have H1:=Hd h1;have H2:=Hd h2;clear h1 h2;cases c1<;>cases c2
 all_goals
  refine ent func99 rfl ntmps99 ?_
  gi_wp2_with (first
   |(refine Cl 144 (U9 _ _) ?_;rintro e w' ⟨rfl,rfl⟩;rw[H2.out])
   |(refine Cl 143 (Rn _ _) ?_;rintro e w' ⟨rfl,rfl⟩;rw[H1.out])
   |(refine⟨trivial,?_⟩))
  go_ret;exact⟨by rw[HR.out];first|rfl|simp,rfl⟩
theorem Ky(x:aU):iM x<=nodes x:=by
 induction x using iY with
 |_ x ih=>
  have key:∀l:List aU,(∀y,y∈l->iM y<=nodes y)->fO l<=dh l:=by
   intro l
   induction l with
   |nil=>intro _;simp[fO,dh]
   |cons y l ihl=>intro h;have h1:=h y List.mem_cons_self;have h2:=ihl fun z hz=>h z (List.mem_cons_of_mem _ hz);rw[fO,dh];omega
  have:=key x.l ih;rw[IQ,gV];omega
theorem C_:∀(x:aU) {M:List Nat}{A:Option Addr}{m c:Nat}{w:World},Sl aU w M A m c x.l->nodes x<=100000->
 CB 142 #[.agg #[.int .i64 x.kind,.string x.name,.int .i64 x.n,.int .i64 x.d,.slice A m c]] (.int .i64 ((iM x:Nat):Int)) w:=by
 intro x
 induction x using iY with
 |_ x ih=>
 intro M A m c w hs hl;refine wid ?_;have hsm:=hs.small;have HM:=Hd hs.len;have HN:=Hd (IQ x);have HD:=Hd (Nat.le_trans (Ky x) hl);have II:=Hd (fun y (hy:y∈x.l)=>Nat.le_trans (fK hy) (show dh x.l<=100000 by have:=gV x;omega));obtain⟨l,hxl⟩:=aC x.l;rw[hxl]at hs HM HN ih II;have IH:=Hd ih;have H:=Hd hs;obtain⟨X,hX⟩:=aC (iM x);rw[hX]at HN HD;obtain⟨kd,hkd⟩:=aC x.kind;obtain⟨nm,hnm⟩:=aC x.name;obtain⟨xn,hxn⟩:=aC x.n;obtain⟨xd,hxd⟩:=aC x.d;rw[hkd,hnm,hxn,hxd,hX];clear hs ih hxl hX hkd hnm hxn hxd;obtain⟨W1,hW1,F1⟩:=dR ((Fr.nil w).a w.heap.size [.int .i64 kd,.string nm,.int .i64 xn,.int .i64 xd,.slice A m c] 48);refine op1 F1 ?_;intros;have F:=Hd F1;clear F1;refine ent func142 rfl ntmps142 ?_;gi_wp2;gi_loopw[3,4] (fun v0 i wr=>∃k:Nat,k<=m/\v0=.int .i64 ((fO (l.take k):Nat):Int)/\i=.int .i64 k/\Hid (Fr w wr [(w.heap.size, [.int .i64 kd,.string nm,.int .i64 xn,.int .i64 xd,.slice A m c])])) (fun _ i _=>m-(intOf i).toNat);case atStart=>exact⟨0,Nat.zero_le _,by simp[fO],rfl,F⟩
 case round=>
  obtain⟨k,hk,rfl,rfl,hF⟩:=hrel;have hFo:=hF.out;refine op1 hFo ?_;intros;clear hFo;obtain⟨T,hT⟩:=aC (fO (l.take k));rw[hT];have HT:=Hd hT;clear hT;by_cases hlt:k<m
  ·obtain⟨y,hy⟩:=dW l k (by rw[HM.out];exact hlt);obtain⟨b,o,B,n',d',rfl,⟨h0,h1,h2,h3,h4⟩,-,hys⟩:=(H.out.go hF.out.bl).qQ hy;have hmem:=List.mem_of_getElem? hy;obtain⟨Y,hY⟩:=aC (iM y);have HS:=Hd (show fO (l.take (k+1))=max T Y by rw[Cc hy,HT.out,hY]);have HC:=Hd (IH.out y hmem hys (II.out y hmem));rw[hY]at HC;clear hy hmem hY hys
   gi_wp2_with (first
    |(refine Cl 142 HC.out ?_;rintro e w2 ⟨rfl,hb2⟩;have F2:=Hd (hF.out.go hb2);clear hb2)
    |fail)
   exact⟨⟨k+1,by omega,by rw[HS.out];simp;omega,by go_num,F2⟩,by simp[intOf];omega⟩
  ·have hkm:k=m:=by omega
   clear hk hlt;subst hkm;have e2:X=T+1:=by exact af9
   subst e2;have hT2:=HD.out;gi_wp2;go_ret;exact⟨by first|rfl|(apply jL;go_num),hF.out.bl⟩
theorem seven(a b c d e f g:Prop):a\/(¬a/\b)\/(¬a/\¬b/\c)\/(¬a/\¬b/\¬c/\d)\/(¬a/\¬b/\¬c/\¬d/\e)\/(¬a/\¬b/\¬c/\¬d/\¬e/\f)\/(¬a/\¬b/\¬c/\¬d/\¬e/\¬f/\g)\/(¬a/\¬b/\¬c/\¬d/\¬e/\¬f/\¬g):=by by_cases a<;>by_cases b<;>by_cases c<;>by_cases d<;>by_cases e<;>by_cases f<;>simp[*]<;>exact Classical.em g
theorem Kz{y:aJ}(h:256<nodes (au y)\/16<iM (au y)):jI y=false:=by unfold jI;exact decide_eq_false (by omega)
theorem GL{M:List Nat}{r:aS}{w:World}(hr:dG w M r s1 s2 s3 s4 s5 s6 s7)(hf:∀y,y∈r.rounds->nodes (au y)<=1000):
 CB 97 #[.agg (aV r s1 s2 s3 s4 s5 s6 s7).toArray] (.bool (!fD r)) w:=by
 refine wid ?_;obtain⟨A4,q4,c4⟩:=s4;obtain⟨A5,q5,c5⟩:=s5;have xg:Sl dA w M A4 q4 c4 r.ties:=hr.ties;have xq:Sl aJ w M A5 q5 c5 r.rounds:=hr.rounds;have n1:=hr.aT.len;have n2:=hr.bonus.len;have n3:=hr.malus.len;have n4:=xg.len;have n5:=xq.len;have n6:=hr.prizes.len;have n7:=hr.points.len;have H:=fB xg xq hf;have HL:=Hd2 n4 n5;have m4:=xg.small;have m5:=xq.small;obtain⟨W1,hW1,F1⟩:=dR ((Fr.nil w).a w.heap.size (aV r s1 s2 s3 ⟨A4,q4,c4⟩ ⟨A5,q5,c5⟩ s6 s7) 28);have hS:sJ r= [((s1.n:Int),(64:Int)),((s2.n:Int),64),((s3.n:Int),64),((q4:Int),16),((q5:Int),8),((s6.n:Int),64),((s7.n:Int),64)]:=by unfold sJ;rw[n1,n2,n3,n4,n5,n6,n7]
 have hE:fD r=(!(sJ r).any jA&&r.ties.all jY&&r.rounds.all jI):=rfl;rw[hS]at hE;simp only[List.any_cons,List.any_nil,jA,Bool.or_false]at hE;refine op1 F1 ?_;intros;have HF:=Hd F1;clear xg xq n1 n2 n3 n4 n5 n6 n7 hr hf F1 hS;rcases seven ((s1.n:Int)>64) ((s2.n:Int)>64) ((s3.n:Int)>64) ((q4:Int)>16) ((q5:Int)>8) ((s6.n:Int)>64) ((s7.n:Int)>64)with g1|⟨g1,g2⟩|⟨g1,g2,g3⟩|⟨g1,g2,g3,g4⟩|⟨g1,g2,g3,g4,g5⟩|⟨g1,g2,g3,g4,g5,g6⟩|⟨g1,g2,g3,g4,g5,g6,g7⟩|⟨g1,g2,g3,g4,g5,g6,g7⟩
 iterate 7
  ·have HR:=Hd (show(!fD r)=true by
     rw[hE,Bool.not_eq_true',Bool.and_eq_false_iff,Bool.and_eq_false_iff,Bool.not_eq_false'];refine .inl (.inl ?_);simp only[Bool.or_eq_true,decide_eq_true_eq];omega)
   clear hE;refine ent func97 rfl ntmps97 ?_;gi_wp2;go_ret;exact⟨by rw[HR.out];first|rfl|simp,HF.out.bl⟩
 have HE:=Hd (show fD r=(r.ties.all jY&&r.rounds.all jI) by
  rw[hE];have:∀a b:Bool,a=false->(!a&&b)=b:=by decide
  rw[Bool.and_assoc];refine this _ _ ?_;simp only[Bool.or_eq_false_iff,decide_eq_false_iff_not];omega)
 clear hE;refine ent func97 rfl ntmps97 ?_;gi_wp2;gi_loopw[3] (fun i wr=>∃k:Nat,k<=q4/\i=.int .i64 k/\W1=wr/\Hid ((r.ties.drop k).all jY=r.ties.all jY)) (fun i _=>q4-(intOf i).toNat);case atStart=>exact⟨0,Nat.zero_le _,rfl,by first|rfl|exact hW1|exact hW1.symm,Hd rfl⟩
 case round=>
  obtain⟨k,hk,rfl,rfl,ht⟩:=hrel;by_cases hlt:k<q4
  ·obtain⟨t,htk⟩:=dW r.ties k (by rw[HL.out.1];exact hlt);have hstep:=iC (P:=jY) htk;obtain⟨bb,o,B,m',d',rfl,⟨h0,h1⟩,hks⟩:=(H.out.1.go HF.out.bl).n_ htk;have hkl:=hks.len;rw[ht.out]at hstep;by_cases hm:(m':Int)>32
   ·have HR:=Hd (show fD r=false by
      rw[HE.out,hstep];unfold jY jA;rw[hkl,decide_eq_true hm];simp)
    clear htk hstep hks hkl;gi_wp2;go_ret;exact⟨by rw[HR.out];rfl,HF.out.bl⟩
   have HST:=Hd (show(r.ties.drop (k+1)).all jY=r.ties.all jY by rw[hstep];unfold jY jA;rw[hkl,decide_eq_false hm];simp);clear htk hstep hks hkl;gi_wp2;exact⟨⟨k+1,by omega,by go_num,trivial,HST⟩,by simp[intOf];omega⟩
  ·have hkn:k=q4:=by omega
   have HT:=Hd (show r.ties.all jY=true by rw[<-ht.out,jr (by rw[HL.out.1];omega)]);clear hk hlt;subst hkn;gi_wp2;gi_loopw[4] (fun i wr=>∃j:Nat,j<=q5/\i=.int .i64 j/\Hid (Fr w wr [(w.heap.size,aV r s1 s2 s3 ⟨A4,k,c4⟩ ⟨A5,q5,c5⟩ s6 s7)])/\Hid ((r.rounds.drop j).all jI=r.rounds.all jI)) (fun i _=>q5-(intOf i).toNat);case atStart=>exact⟨0,Nat.zero_le _,rfl,HF,Hd rfl⟩
   case round=>
    obtain⟨j,hj,rfl,hF,ht⟩:=hrel;have hfo:=hF.out;refine op1 hfo ?_;intros;clear hfo;by_cases hlt:j<q5
    ·obtain⟨y,hy⟩:=dW r.rounds j (by rw[HL.out.2];exact hlt);have hstep:=iC (P:=jI) hy;have hfew:=H.out.2.2 y (List.mem_of_getElem? hy);obtain⟨b,o,B,m',d',rfl,-,⟨h6,h7,h8,h9,h10⟩,-,-,-,hys⟩:=(H.out.2.1.go hF.out.bl).iw hy;have HP:=Hd (yR (au y) hys (show 256<=100000 by omega));rw[ht.out]at hstep;obtain⟨P,hP⟩:=aC (qU (nodes (au y)) 256);obtain⟨D,hD⟩:=aC (iM (au y));have HPD:=Hd (And.intro hP hD);rw[hP]at HP;have HK:=h_ hy hstep hfew hys;clear hy hstep hfew hys hP hD;by_cases hp:(P:Int)>256
     ·have HR:=Hd (show fD r=false by
        rw[HE.out,HK.out.2.1,Kz (.inl (by have:=HPD.out.1;unfold qU at this;omega))];simp)
      gi_wp2_with (first
       |(refine Cl 25 HP.out ?_;rintro e w2 ⟨rfl,hb2⟩;have F2:=Hd (hF.out.go hb2);have hfo:=F2.out;refine op1 hfo ?_;intros;clear hb2 hfo)
       |(refine⟨trivial,?_⟩))
      go_ret;exact⟨by rw[HR.out];rfl,F2.out.bl⟩
     by_cases hd:(D:Int)>16
     ·have HR:=Hd (show fD r=false by
        rw[HE.out,HK.out.2.1,Kz (.inr (by have:=HPD.out.2;omega))];simp)
      gi_wp2_with (first
       |(have g:=F2.out;clear g;refine Cl 142 HDP.out ?_;rintro e w3 ⟨rfl,hb3⟩;rw[HPD.out.2];have F3:=Hd (F2.out.go hb3);clear hb3)
       |(refine Cl 25 HP.out ?_;rintro e w2 ⟨rfl,hb2⟩;have F2:=Hd (hF.out.go hb2);have HDP:=Hd (C_ (au y) (HK.out.2.2.2.go hb2) (by have:=HK.out.2.2.1;omega));have hfo:=F2.out;have HB2:=Hd hb2;have e6:=(Keeps.of_below hb2 []).cell (by simp) h6;have e7:=(Keeps.of_below hb2 []).cell (by simp) h7;have e8:=(Keeps.of_below hb2 []).cell (by simp) h8;have e9:=(Keeps.of_below hb2 []).cell (by simp) h9;have e10:=(Keeps.of_below hb2 []).cell (by simp) h10;refine op1 hfo ?_;intros;clear hb2 hfo)
       |fail)
      go_ret;exact⟨by rw[HR.out];rfl,F3.out.bl⟩
     have HR:=Hd (show(r.rounds.drop (j+1)).all jI=r.rounds.all jI by rw[HK.out.2.1];have:jI y=true:=decide_eq_true (by have:=HPD.out.1;have:=HPD.out.2;unfold qU at*;omega);rw[this,Bool.true_and])
     gi_wp2_with (first
      |(have g:=F2.out;clear g;refine Cl 142 HDP.out ?_;rintro e w3 ⟨rfl,hb3⟩;rw[HPD.out.2];have F3:=Hd (F2.out.go hb3);clear hb3)
      |(refine Cl 25 HP.out ?_;rintro e w2 ⟨rfl,hb2⟩;have F2:=Hd (hF.out.go hb2);have HDP:=Hd (C_ (au y) (HK.out.2.2.2.go hb2) (by have:=HK.out.2.2.1;omega));have hfo:=F2.out;have e6:=(Keeps.of_below hb2 []).cell (by simp) h6;have e7:=(Keeps.of_below hb2 []).cell (by simp) h7;have e8:=(Keeps.of_below hb2 []).cell (by simp) h8;have e9:=(Keeps.of_below hb2 []).cell (by simp) h9;have e10:=(Keeps.of_below hb2 []).cell (by simp) h10;refine op1 hfo ?_;intros;clear hb2 hfo)
      |fail)
     exact⟨⟨j+1,by omega,by go_num,F3,HR⟩,by simp[intOf];omega⟩
    ·have hjn:j=q5:=by omega
     have HR:=Hd (show fD r=true by rw[HE.out,HT.out,<-ht.out,jr (by rw[HL.out.2];omega)];rfl);clear hj hlt;subst hjn;gi_wp2;go_ret;exact⟨by rw[HR.out];rfl,hF.out.bl⟩
section
attribute [local go_sem] Oper.semAt_some
def tS(t0 t1 t2 t3:dK):Nat->dK
 |0=>t0
 |1=>t1
 |2=>t2
 |_=>t3
def NY(r:aS):Nat->List ByteArray
 |0=>dP r
 |1=>UG r
 |2=>jF r
 |_=>dQ r
theorem JO.nth{w:World}{M:List Nat}{r:aS}{t0 t1 t2 t3:dK}(h:JO w M r t0 t1 t2 t3):∀i,Sl ByteArray w M (tS t0 t1 t2 t3 i).A (tS t0 t1 t2 t3 i).n (tS t0 t1 t2 t3 i).c (NY r i)
 |0=>h.c
 |1=>h.i
 |2=>h.t
 |_+3=>h.r
theorem U_(t0 t1 t2 t3:dK):∀i,i<4->(Af t0 t1 t2 t3)[i]?=some (.slice (tS t0 t1 t2 t3 i).A (tS t0 t1 t2 t3 i).n (tS t0 t1 t2 t3 i).c)
 |0,_=>rfl
 |1,_=>rfl
 |2,_=>rfl
 |3,_=>rfl
 |_+4,h=>by omega
def uZ(r:aS):Nat->Bool
 |0=>bZ r.name
 |i+1=>uZ r i&&(NY r i).all bZ
def vN(nm:List ByteArray):Nat->Bool
 |0=>false
 |k+1=>vN nm k||decide (¬dO nm (nm.getD k ByteArray.empty)=(k:Int))
def Fb(r:aS):Nat->Bool
 |0=>false
 |i+1=>Fb r i||vN (NY r i) (NY r i).length
def vO(r:aS)(y:aJ):aJ:=(y.1,y.2.1,y.2.2.1,y.2.2.2.1,y.2.2.2.2.1,y.2.2.2.2.2.1,fH (dP r) (dQ r) (au y),qX y,if(qX y).toList= []then-1 else dO (jF r) (qX y))
def Va(r:aS)(y:aJ):Bool:=okR (dP r) (dQ r) (au y)&&(decide ((qX y).toList= [])||decide (0<=dO (jF r) (qX y)))
def yV(r:aS)(t:dA):dA:=(t.1,t.2.map (iW (dP r) (dQ r) (jF r)))
def okT(r:aS)(t:dA):Bool:=t.2.all (I_ (dP r) (dQ r) (jF r))
def Fe(r:aS):aS:={ r with ties:=r.ties.map (yV r),rounds:=r.rounds.map (vO r) }
def Yc(r:aS):Bool:=r.ties.all (okT r)&&r.rounds.all (Va r)
def jJ(r:aS):Int:=if fD r=false then 2 else if uZ r 4=false then 140 else if Fb r 4=true then 141 else if Yc r=false then 140 else 0
theorem Vb{M:List Nat}{r:aS}{w:World}(hr:dG w M r s1 s2 s3 s4 s5 s6 s7)(hf:∀y,y∈r.rounds->nodes (au y)<=1000)(hs:fD r=false):
 CB 47 #[.agg (aV r s1 s2 s3 s4 s5 s6 s7).toArray] (.tuple #[.agg nR.toArray,.int .i64 2]) w:=by
 refine wid ?_;obtain⟨W1,hW1,F1⟩:=dR (((Fr.nil w).a w.heap.size (aV r s1 s2 s3 s4 s5 s6 s7) 28).a (w.heap.size+1) nR 28);refine op1 F1 ?_;intros;have H:=Hd2 (hr.go F1.bl) hf;have HS:=Hd hs;have HF:=Hd F1;clear F1 hr hf hs;refine ent func47 rfl ntmps47 ?_
 gi_wp2_with (first
  |(refine Cl 97 (GL H.out.1 H.out.2) ?_;rintro e w2 ⟨rfl,hb⟩;rw[HS.out];have F2:=Hd (HF.out.go hb);have hfo:=F2.out;refine op1 hfo ?_;intros;clear hb hfo)
  |fail)
 clear hW1;refine(fun(h:∀U,fM w2 (w.heap.size+1) 0 nR=U->bodyPost _ _ _ _ _ U)=>h _ rfl) ?_;intro U hU;have kb:=iO (w:=w2) (b:=w.heap.size+1) (vs:=nR) (us:=nR) (fun i u hu=>F2.out.at_ (w.heap.size+1) _ (by simp) i u hu) rfl hU;have z0:=(kb.1 0 _ rfl).1;have z1:=(kb.1 1 _ rfl).1;have z2:=(kb.1 2 _ rfl).1;have z3:=(kb.1 3 _ rfl).1;have z4:=(kb.1 4 _ rfl).1;have z5:=(kb.1 5 _ rfl).1;have z6:=(kb.1 6 _ rfl).1;have z7:=(kb.1 7 _ rfl).1;have z8:=(kb.1 8 _ rfl).1;exact⟨rfl,.tuple #[.agg nR.toArray,.int .i64 2],by simp[results,go_sem,z0,z1,z2,z3,z4,z5,z6,z7,z8],rfl,F2.out.bl.trans (kb.2.bl.mono (by omega))⟩
end
theorem aW{w W:World}{L:List (Nat×List Value)}{q:Prop}(h:Fr w W L)(e:At W L=q:=by(simp only[List.nil_append,List.cons_append,At,Ce,Nat.zero_add,Nat.reduceAdd,and_true];exact rfl)):q:=e▸h.Um
structure GN(α:Type) [kJ α] (e:TypeId)(w W wr:World)(r:aS)(R:List Value)(lb xb:Nat)(t0 t1 t2 t3:dK)(M:List Nat)(C:List Value)(v:Value)(l:List α):Prop where
 fr:Fr w wr ([(w.heap.size,R),(w.heap.size+1,nR),(lb,Af t0 t1 t2 t3)]++ [(xb,C)])
 nm:JO W [xb] r t0 t1 t2 t3
 own:bD α e wr (xb::(w.heap.size+1)::M) W.heap.size v l.length l
 kp:Keeps [xb] W wr
 xW:xb<W.heap.size
 lx:lb<xb
 wl:w.heap.size+1<lb
 bM:∀q,q∈M->q<w.heap.size
section
variable {α:Type} [kJ α] {e:TypeId}{w W wr wz:World}{r:aS}{R:List Value}{lb xb:Nat}{t0 t1 t2 t3:dK}{M:List Nat}{C:List Value}{v:Value}{l:List α}
theorem GN.go(h:GN α e w W wr r R lb xb t0 t1 t2 t3 M C v l)(hb:Below wr.heap.size wr wz):GN α e w W wz r R lb xb t0 t1 t2 t3 M C v l:=⟨h.fr.go hb,h.nm,h.own.go hb,h.kp.trans (Go.Proofs.YtlcgbfkdnmdigaaGreatDoor.Keeps.of_below hb _),h.xW,h.lx,h.wl,h.bM⟩
theorem GN.start(h:Fr w wr ([(w.heap.size,R),(w.heap.size+1,nR),(lb,Af t0 t1 t2 t3)]++ [(xb,C)]))(hn:JO wr [xb] r t0 t1 t2 t3)(lx:lb<xb)(wl:w.heap.size+1<lb)(hM:∀q,q∈M->q<w.heap.size):GN α e w wr wr r R lb xb t0 t1 t2 t3 M C (.slice none 0 0) []:=⟨h,hn,bD.nil _ _ _,Keeps.refl _ _,h.lt xb C (by simp),lx,wl,hM⟩
theorem GN.nmr(h:GN α e w W wr r R lb xb t0 t1 t2 t3 M C v l):JO wr [xb] r t0 t1 t2 t3:=⟨h.nm.c.keep h.kp,h.nm.i.keep h.kp,h.nm.t.keep h.kp,h.nm.r.keep h.kp⟩
theorem GN.lt(h:GN α e w W wr r R lb xb t0 t1 t2 t3 M C v l)(hq:q∈xb::(w.heap.size+1)::M):q<W.heap.size:=by
 have h1:=h.xW;have h2:=h.lx;have h3:=h.wl;rcases List.mem_cons.1 hq with rfl|hq;·exact h1
 exact agG
theorem GN.bel(h:GN α e w W wr r R lb xb t0 t1 t2 t3 M C v l):b_ (bP v++(xb::(w.heap.size+1)::M)) wr:=fun q hq=>by
 rcases List.mem_append.1 hq with hq|hq;·exact(h.own.lt (bJ.1 hq)).2
 exact Nat.lt_of_lt_of_le (h.lt hq) h.kp.size
theorem GN.sl(h:GN α e w W wr r R lb xb t0 t1 t2 t3 M C v l)(hn:l.length<=100000):∃A c,v=.slice A l.length c/\Sl α wr (xb::(w.heap.size+1)::M) A l.length c l:=h.own.sl (by omega) (fun _ hk=>h.lt hk)
theorem GN.step{t:TypeId}(h:GN α e w W wr r R lb xb t0 t1 t2 t3 M C v l)(ht:prog.underlying t=some (.slice e))(hi:iU e (Rep.sz α)){x:α}{cs:List Value}(hx:Rep.rd wr (bP v++(xb::(w.heap.size+1)::M)) x cs){j:Nat}{u0:Value}(hj:C[j]?=some u0)(hl:l.length<=100000):
 ∃v' wA,(Builtin.append_ #[t,t] t #[v,.slice (some ⟨wr.heap.size,0,none⟩) 1 1]).run prog (wr.alloc (.cells cs.toArray e))=.ok v' wA/\Fr w wA ([(w.heap.size,R),(w.heap.size+1,nR),(lb,Af t0 t1 t2 t3)]++ [(xb,C)])/\GN α e w W (wA.setCell ⟨xb,j,none⟩ v') r R lb xb t0 t1 t2 t3 M (C.set j v') v' (l++ [x]):=by
 have h1:=h.xW;have h2:=h.lx;have h3:=h.wl;obtain⟨v',wA,r1,r2,r3,r4,r5⟩:=h.own.app1 (x:=x) (cs:=cs) ht hi h.kp.size (fun q hq=>Nat.lt_of_lt_of_le (h.lt hq) h.kp.size) hx hl;have hF:=h.fr.ZI r3 (fun k hk=>by have h4:=(h.own.lt hk).1;exact afC);refine⟨v',wA,r1,hF,⟨hF.qY (fun c vs hm e=>by exact afB) hj v',h.nm,?_,(h.kp.grown r3 (fun k hk=>.inr (h.own.lt hk).1)).setCell (p:=⟨xb,j,none⟩) (.inl (by simp)) v',h.xW,h.lx,h.wl,h.bM⟩⟩
 ·have hlen:(l++ [x]).length=l.length+1:=by simp
  rw[hlen];exact r2.apart ((Keeps.refl [xb] wA).setCell (p:=⟨xb,j,none⟩) (.inl (by simp)) v') (fun q hq=>by rw[List.mem_singleton]at hq;subst hq;exact List.mem_cons_self) (fun q hq e=>by rw[List.mem_singleton]at hq;subst hq;exact afI)
end
structure Qe(V W wr:World)(tb:Nat)(M:List Nat)(nm:ByteArray)(v:Value)(l:List bK):Prop where
 fr:Fr V wr ([]++ [(tb, [.string nm,v])])
 own:bD bK 116 wr (tb::M) W.heap.size v l.length l
 kp:Keeps [tb] W wr
 tW:tb<W.heap.size
 VW:V.heap.size<=W.heap.size
 bM:∀q,q∈M->q<W.heap.size
section
variable {V W wr wz:World}{tb:Nat}{M:List Nat}{nm:ByteArray}{v:Value}{l:List bK}
theorem Qe.go(h:Qe V W wr tb M nm v l)(hb:Below wr.heap.size wr wz):Qe V W wz tb M nm v l:=⟨h.fr.go hb,h.own.go hb,h.kp.trans (Go.Proofs.YtlcgbfkdnmdigaaGreatDoor.Keeps.of_below hb _),h.tW,h.VW,h.bM⟩
theorem Qe.start(h:Fr V wr ([]++ [(tb, [.string nm,.slice none 0 0])]))(hM:∀q,q∈M->q<wr.heap.size):Qe V wr wr tb M nm (.slice none 0 0) []:=⟨h,bD.nil _ _ _,Keeps.refl _ _,h.lt tb _ (List.mem_append_right _ (List.mem_singleton.2 rfl)),h.bl.size,hM⟩
theorem Qe.lt(h:Qe V W wr tb M nm v l)(hq:q∈tb::M):q<W.heap.size:=by
 rcases List.mem_cons.1 hq with rfl|hq;·exact h.tW
 exact h.bM q hq
theorem Qe.sl(h:Qe V W wr tb M nm v l)(hn:l.length<=100000):∃A c,v=.slice A l.length c/\Sl bK wr (tb::M) A l.length c l:=h.own.sl (by omega) (fun _ hk=>h.lt hk)
theorem Qe.step(h:Qe V W wr tb M nm v l){x:bK}(hi:i64 x.1/\i64 x.2.2)(hl:l.length<=100000):
 ∃v' wA,(Builtin.append_ #[106,106] 106 #[v,.slice (some ⟨wr.heap.size,0,none⟩) 1 1]).run prog (wr.alloc (.cells #[.int .i64 x.1,.string x.2.1,.int .i64 x.2.2] 116))=.ok v' wA/\Fr V wA ([]++ [(tb, [.string nm,v])])/\Qe V W (wA.setCell ⟨tb,1,none⟩ v') tb M nm v' (l++ [x]):=by
 have hm:(tb, [.string nm,v])∈([]++ [(tb, [.string nm,v])]:List (Nat×List Value)):=List.mem_append_right _ (List.mem_singleton.2 rfl);obtain⟨v',wA,r1,r2,r3,r4,r5⟩:=h.own.app1 (x:=x) (cs:= [.int .i64 x.1,.string x.2.1,.int .i64 x.2.2]) underlying106 qy h.kp.size (fun q hq=>Nat.lt_of_lt_of_le (h.lt hq) h.kp.size) ⟨[_],_,rfl,⟨rfl,hi.1⟩, [_],_,rfl,rfl,⟨rfl,hi.2⟩⟩ hl;have hF:=h.fr.ZI r3 (fun k hk=>by have h4:=(h.own.lt hk).1;have h5:=h.VW;have h6:=h.tW;refine⟨by omega,fun b vs hm e=>?_⟩;subst e;simp only[List.nil_append,List.mem_cons,Prod.mk.injEq,List.not_mem_nil,or_false]at hm;omega);refine⟨v',wA,r1,hF,⟨hF.qY (j:=1) (u0:=v) (fun c vs hm=>by cases hm) rfl v',?_,(h.kp.grown r3 (fun k hk=>.inr (h.own.lt hk).1)).setCell (p:=⟨tb,1,none⟩) (.inl (by simp)) v',h.tW,h.VW,h.bM⟩⟩;have hlen:(l++ [x]).length=l.length+1:=by simp
 rw[hlen];exact r2.apart ((Keeps.refl [tb] wA).setCell (p:=⟨tb,1,none⟩) (.inl (by simp)) v') (fun q hq=>by rw[List.mem_singleton]at hq;subst hq;exact List.mem_cons_self) (fun q hq e=>by rw[List.mem_singleton]at hq;subst hq;have h6:=h.tW;exact afI)
end
theorem aaM{w:World}{M:List Nat}{nm:ByteArray}{A:Option Addr}{n c:Nat}{l:List bK}(hs:Sl bK w M A n c l):Rep.rd w M ((nm,l):dA) [.string nm,.slice A n c]:=⟨[_], [_],rfl,rfl,A,n,c,rfl,hs⟩
end Go.Proofs.YtlcgbfkdnmdigaaGreatDoor
