/- Lemmas -/
import Derived.Test.YtfdmnogfflcllaaGreatDoorM20
import Derived.Test.YtfdmnogfflcllaaGreatDoorM19
set_option linter.all false
set_option maxRecDepth 100000
set_option maxHeartbeats 0
namespace Go.Proofs.YtfdmnogfflcllaaGreatDoor
open Go.Proofs.Tryz
theorem Bg{p:Prop}(h:p:=by
 skip
 clear hs X;refine ent func153 ntmps153 ?_;gi_wp2;go_ret;exact⟨by rw[t.out];first|rfl|simp,HF.out.bl⟩):p:=h
theorem Bj{p:Prop}(h:p:=by have HN:=Hd a;clear a;gi_wp2;refine aP [] 9 pk pk ?_;refine ay 0 ?_;refine ay 1 ?_;refine ay 2 ?_;refine ay 3 ?_;refine ay 4 ?_;refine ay 5 ?_;refine ay 6 ?_;refine ay 7 ?_;refine ay 8 ?_;refine iq 0 ?_;refine et _ ?_;simp only[cu];gi_wp2;exact⟨⟨k+1,pj,by go_num,hb.drew⟩,by simp[intOf];omega⟩):p:=h
theorem Nl{p:Prop}(h:p:=by
 rcases d with d|d;·rw[d]at e;have F:=(h.own.lt e).1;omega
 rw[d]at e;have:=fk e;have:=h.kp.size;omega):p:=h
theorem O4{p:Prop}(h:p:=by
 refine ent func189 ntmps189 ?_;gi_wp2_with (refine⟨bO,?_⟩)
 go_ret;exact⟨by rw[a.out];first|rfl|simp,rfl⟩):p:=h
variable {p:Int}{k:bK}{s:ByteArray}{s1 s2 s3 s4 s5 s6 s7:dK}{cn rn:List ByteArray}{q n c:Nat}{A B:Option Addr}{M':List Nat}
section
open Go.RowKit Go.Shelf
attribute [local go_sem] cX
theorem agt(cn rn tn:List ByteArray)(k:bK):(iW cn rn tn k).1=k.1/\(iW cn rn tn k).2.1=k.2.1:=by
 unfold iW;split;·exact⟨rfl,rfl⟩
 split;·exact⟨rfl,rfl⟩
 split<;>exact⟨rfl,rfl⟩
abbrev Fa(k:bK):Value:=.agg #[k.1,k.2.1,k.2.2]
theorem RkE{p:Prop}(h:p:=by
 obtain⟨W1,X,F1⟩:=dR ((((Fr.nil w).a w (Af t0 t1 t2 t3) 196).a (w+1) [kd,nm,n] 113).a (w+1+1) [.int .i64 0,.string ⟨#[]⟩,.int .i64 0] 113);have G:=Hd (ru nm (HNM.go F1.bl));obtain⟨z,I⟩:=aC (W1.setCell ⟨w+1,2,none⟩ n');have m:=F1.mid (j:=2) (B:= [kd,nm,n]) rfl n';rw[I]at m;have d:=Hd (show Fr w z [(w,Af t0 t1 t2 t3),(w+1, [kd,nm,n']),(w+1+1, [.int .i64 0,.string ⟨#[]⟩,.int .i64 0])]from m);refine op1 F1 ?_;intros;clear F1 m HNM;rw[HX.a,HX.u];refine ent func147 ntmps147 ?_
 gi_wp2_with (first
  |(refine Cl 146 G.out ?_;rintro e w' ⟨⟨i,rfl,E⟩,rfl⟩;obtain rfl:n'=i:=by rw[<-HN.out];exact(lV E).symm
    have D:=d.out;refine op1 D ?_;intros;clear D E)
  |fail)
 have Y:=aF (Mr:= [w.heap.size+1+1]) (b:=w+1) po (d.out.aQ 1 0);have Z:=aF (Mr:= [w.heap.size+1+1]) (b:=w+1) po (d.out.aQ 1 1);have q2:=aF (Mr:= [w.heap.size+1+1]) (b:=w+1) po (d.out.aQ 1 2);obtain⟨y,t⟩:=aC z.drew;have FD:=t▸d.out.drew;have L:=Hd t;obtain⟨o,x⟩:=aC (fM y (w.heap.size+1+1) 0 [kd,nm,n']);have g:=iO (w:=y) (b:=w+1+1) (vs:= [.int .i64 0,.string ⟨#[]⟩,.int .i64 0]) (us:= [kd,nm,n']) (fun i u J=>FD.at_ (w.heap.size+1+1) _ po i u J) rfl x;have f:Hid (mP o (w.heap.size+1+1) [kd,nm,n']/\Below w w o):=⟨g.1,FD.bl.trans (g.2.bl.mono pj)⟩;have Q:((y.setCell ⟨w+1+1,0,none⟩ kd).setCell ⟨w+1+1,1,none⟩ nm).setCell ⟨w+1+1,2,none⟩ n'=o:=x;have F:=g.2.k;clear t x g;refine aP [w.heap.size+1+1] 5 pk pk ?_;refine ay 0 ?_;refine ay 1 ?_;refine ay 2 ?_;refine ay 3 ?_;rw[L.out];refine op1 FD ?_;intros;clear FD;refine eU 4 fun K H=>?_;gi_wp2;refine⟨F,?_⟩;clear F;refine lit ?_;refine iq 1 ?_;refine jW fun K H S T=>?_;gi_wp2;refine et _ ?_;simp only[cu];gi_wp2;have N:=(f.a 0 _ rfl).1;have O:=(f.a 1 _ rfl).1;have P:=(f.a 2 _ rfl).1;exact⟨rfl,.tuple #[.agg #[kd,nm,n'],.bool (decide (0<=n'))],by simp[results,go_sem,N,O,P],rfl,f.u⟩):p:=h
theorem agu{r:aS}{M:List Nat}{t0 t1 t2 t3:dK}{w:World}(hnm:JO w M r t0 t1 t2 t3)(h:k.1=1):
 CB 147 #[.agg (Af t0 t1 t2 t3).toArray,Fa k] (.tuple #[Fa (iW (dP r) (dQ r) (jF r) k),.bool (I_ (dP r) (dQ r) (jF r) k)]) w:=by
 refine wid ?_;have HX:=Hd (show iW (dP r) (dQ r) (jF r) k=(k.1,k.2.1,dO (dP r) k.2.1)/\I_ (dP r) (dQ r) (jF r) k=decide (0<=dO (dP r) k.2.1) by unfold iW I_;rw[if_pos h,if_pos h];exact⟨rfl,rfl⟩);obtain⟨kd,nm,n⟩:=k;simp only at h HX;have e1:(kd==1)=true:=by simp[h]
 obtain⟨n',hn'⟩:=aC (dO (dP r) nm);rw[hn']at HX;have HN:=Hd hn';have HNM:=hnm.c;clear h hn' hnm;exact RkE
theorem agv{r:aS}{M:List Nat}{t0 t1 t2 t3:dK}{w:World}(hnm:JO w M r t0 t1 t2 t3)(h:k.1=2):
 CB 147 #[.agg (Af t0 t1 t2 t3).toArray,Fa k] (.tuple #[Fa (iW (dP r) (dQ r) (jF r) k),.bool (I_ (dP r) (dQ r) (jF r) k)]) w:=by
 refine wid ?_;have HX:=Hd (show iW (dP r) (dQ r) (jF r) k=(k.1,k.2.1,dO (dQ r) k.2.1)/\I_ (dP r) (dQ r) (jF r) k=decide (0<=dO (dQ r) k.2.1) by unfold iW I_;rw[if_neg (show ¬k.1=1 by omega),if_pos h,if_neg (show ¬k.1=1 by omega),if_pos h];exact⟨rfl,rfl⟩);obtain⟨kd,nm,n⟩:=k;simp only at h HX;obtain⟨e1,e2⟩:(kd==1)=false/\(kd==2)=true:=by simp[h]
 obtain⟨n',hn'⟩:=aC (dO (dQ r) nm);rw[hn']at HX;have HN:=Hd hn';have HNM:=hnm.r;clear h hn' hnm;exact RkE
theorem agw{r:aS}{M:List Nat}{t0 t1 t2 t3:dK}{w:World}(hnm:JO w M r t0 t1 t2 t3)(h:k.1=5):
 CB 147 #[.agg (Af t0 t1 t2 t3).toArray,Fa k] (.tuple #[Fa (iW (dP r) (dQ r) (jF r) k),.bool (I_ (dP r) (dQ r) (jF r) k)]) w:=by
 refine wid ?_;have HX:=Hd (show iW (dP r) (dQ r) (jF r) k=(k.1,k.2.1,dO (jF r) k.2.1)/\I_ (dP r) (dQ r) (jF r) k=decide (0<=dO (jF r) k.2.1) by unfold iW I_;rw[if_neg (show ¬k.1=1 by omega),if_neg (show ¬k.1=2 by omega),if_pos h,if_neg (show ¬k.1=1 by omega),if_neg (show ¬k.1=2 by omega),if_pos h];exact⟨rfl,rfl⟩);obtain⟨kd,nm,n⟩:=k;simp only at h HX;obtain⟨e1,e2,e5⟩:(kd==1)=false/\(kd==2)=false/\(kd==5)=true:=by simp[h]
 obtain⟨n',hn'⟩:=aC (dO (jF r) nm);rw[hn']at HX;have HN:=Hd hn';have HNM:=hnm.t;clear h hn' hnm;exact RkE
theorem agx{r:aS}{t0 t1 t2 t3:dK}{w:World}(h1:¬k.1=1)(h2:¬k.1=2)(h5:¬k.1=5):
 CB 147 #[.agg (Af t0 t1 t2 t3).toArray,Fa k] (.tuple #[Fa (iW (dP r) (dQ r) (jF r) k),.bool (I_ (dP r) (dQ r) (jF r) k)]) w:=by
 refine wid ?_;have H:iW (dP r) (dQ r) (jF r) k=k:=by unfold iW;rw[if_neg h1,if_neg h2,if_neg h5]
 have O:I_ (dP r) (dQ r) (jF r) k=true:=by unfold I_;rw[if_neg h1,if_neg h2,if_neg h5]
 rw[H,O];obtain⟨kd,nm,n⟩:=k;have x:(kd==1)=false:=cU.2 h1;have y:(kd==2)=false:=cU.2 h2;have z:(kd==5)=false:=cU.2 h5;obtain⟨W1,t,F1⟩:=dR ((((Fr.nil w).a w (Af t0 t1 t2 t3) 196).a (w+1) [kd,nm,n] 113).a (w+1+1) [.int .i64 0,.string ⟨#[]⟩,.int .i64 0] 113);have HF:=Hd F1;refine op1 F1 ?_;intros;clear F1 H O h1 h2 h5;refine ent func147 ntmps147 ?_;gi_wp2;refine(fun(h:∀U,fM W1 (w.heap.size+1+1) 0 [kd,nm,n]=U->bodyPost _ _ _ _ _ U)=>h _ rfl) ?_;intro U f;have d:=iO (w:=W1) (b:=w+1+1) (vs:= [.int .i64 0,.string ⟨#[]⟩,.int .i64 0]) (us:= [kd,nm,n]) (fun i u g=>HF.out.at_ (w.heap.size+1+1) _ po i u g) rfl f;have j:=(d.1 0 _ rfl).1;have m:=(d.1 1 _ rfl).1;have o:=(d.1 2 _ rfl).1;exact⟨rfl,.tuple #[.agg #[kd,nm,n],true],by simp[results,go_sem,j,m,o],rfl,HF.out.bl.trans (d.2.bl.mono pj)⟩
theorem U4{r:aS}{M:List Nat}{t0 t1 t2 t3:dK}{w:World}(hnm:JO w M r t0 t1 t2 t3):
 CB 147 #[.agg (Af t0 t1 t2 t3).toArray,Fa k] (.tuple #[Fa (iW (dP r) (dQ r) (jF r) k),.bool (I_ (dP r) (dQ r) (jF r) k)]) w:=by
 by_cases b:k.1=1;·exact agu hnm b
 ·by_cases d:k.1=2;·exact agv hnm d
  by_cases a:k.1=5;·exact agw hnm a
  exact agx b d a
end
section
open Go.RowKit Go.Shelf
theorem sW(b:Int)(w:World):Calls prog 230 #[.int .u8 b] w fun e w'=>e=.returned (.bool (jM b))/\w=w':=by
 refine wid ?_;by_cases a:97<=b<;>by_cases d:b<=122<;>by_cases f:65<=b<;>by_cases F:b<=90
 all_goals
  refine ent func230 ntmps230 ?_;gi_wp2;go_ret;exact⟨by simp[jM,a,d,f,F],rfl⟩
theorem Kw(b:Int)(w:World):Calls prog 263 #[.int .u8 b] w fun e w'=>e=.returned (.bool (vH b))/\w=w':=by
 refine wid ?_;by_cases a:48<=b<;>by_cases d:b<=57
 all_goals
  refine ent func263 ntmps263 ?_;gi_wp2;go_ret;exact⟨by simp[vH,a,d],rfl⟩
theorem GI(b:Int)(w:World):Calls prog 231 #[.int .u8 b] w fun e w'=>e=.returned (.bool (mY b))/\w=w':=by
 refine wid ?_;obtain⟨G,a⟩:=aC (jM b);obtain⟨Q,d⟩:=aC (vH b);obtain⟨f,g⟩:=aC (b==95);have m:=Hd (show mY b=(G||Q||f) by rw[mY,a,d,<-g];by_cases e:b=95<;>simp[e]);have i:=Hd a;have j:=Hd d;clear a d;cases f<;>cases G<;>cases Q
 all_goals
  refine ent func231 ntmps231 ?_
  gi_wp2_with (first
   |(refine Cl 263 (Kw _ _) ?_;rintro e w' ⟨rfl,rfl⟩;rw[j.out])
   |(refine Cl 230 (sW _ _) ?_;rintro e w' ⟨rfl,rfl⟩;rw[i.out])
   |(refine⟨bO,?_⟩))
  go_ret;exact⟨by rw[m.out];first|rfl|simp[g],rfl⟩
theorem Rn(s:ByteArray)(w:World):Calls prog 189 #[s] w fun e w'=>e=.returned (.bool (nameB s))/\w=w':=by
 refine wid ?_;by_cases f:s.size=0;·have a:=Hd (show nameB s=false by unfold nameB;simp[f]);exact O4
 have F:0<s.size:=pj;have I:¬(s.size:Int)<1:=pj;by_cases o:s.size<=32
 ·have z:¬(s.size:Int)>32:=pj;have E:=wY F;obtain⟨b0,g⟩:=aC (mX s 0);rw[g]at E;obtain⟨y,d⟩:=aC (jM b0);have II:=Hd d;cases y
  ·have a:=Hd (show nameB s=false by unfold nameB;rw[g,d];simp);clear d f;refine ent func189 ntmps189 ?_
   gi_wp2_with (first
    |(refine Cl 230 (sW _ _) ?_;rintro e w' ⟨rfl,rfl⟩;rw[II.out])
    |fail)
   go_ret;exact⟨by rw[a.out];first|rfl|simp,rfl⟩
  have HL:=Hd (show nameB s=(List.range s.size).all fun k=>mY (mX s k) by unfold nameB;rw[g,d];simp[F,o]);clear d f;refine ent func189 ntmps189 ?_
  gi_wp2_with (first
   |(refine Cl 230 (sW _ _) ?_;rintro e w' ⟨rfl,rfl⟩;rw[II.out])
   |fail)
  gi_loopw[3] (fun i wr=>∃k:Nat,k<=s.size/\i=k/\w=wr/\Hid (∀j,j<k->mY (mX s j)=true)) (fun i _=>s.size-(intOf i).toNat);case atStart=>exact⟨0,cf _,rfl,rfl,Hd (fun j m=>by omega)⟩
  case round=>
   obtain⟨k,J,rfl,rfl,x⟩:=hrel;by_cases u:k<s.size
   ·have G:=wY u;obtain⟨b,hb⟩:=aC (mX s k);rw[hb]at G;obtain⟨c,K⟩:=aC (mY b);have t:=Hd K;cases c
    ·have a:=Hd (show nameB s=false by
       rw[HL.out];cases D:(List.range s.size).all fun k=>mY (mX s k);·rfl
       ·have:=cT.1 D k (ga.2 u);rw[hb,K]at this;cases this)
     clear K hb
     gi_wp2_with (first
      |(refine Cl 231 (GI _ _) ?_;rintro e w' ⟨rfl,rfl⟩;rw[t.out])
      |fail)
     go_ret;exact⟨by rw[a.out];first|rfl|simp,rfl⟩
    have H:=Hd (show ∀j,j<k+1->mY (mX s j)=true from fun j m=>by
     by_cases e:j=k;·rw[e,hb];exact K
     exact x.out j pj)
    clear K hb
    gi_wp2_with (first
     |(refine Cl 231 (GI _ _) ?_;rintro e w' ⟨rfl,rfl⟩;rw[t.out])
     |fail)
    exact⟨⟨k+1,pj,by go_num,bO,H⟩,by simp[intOf];omega⟩
   ·have a:=Hd (show nameB s=true by
      rw[HL.out,cT];intro j m;exact x.out j (by have:=ga.1 m;omega))
    gi_wp2;go_ret;exact⟨by rw[a.out];first|rfl|simp,rfl⟩
 have z:(s.size:Int)>32:=pj;have a:=Hd (show nameB s=false by unfold nameB;simp[o]);clear f;exact O4
theorem ae{l:List UInt8}(h:(s.toList==l)=true)(hm:gY.any (fun y=>y.data.toList==l)=true):Ud s gY=true:=by rw[Lib.toList_data,beq_iff_eq]at h;obtain⟨y,g,e⟩:=iS.1 hm;have H:s=y:=oF (od.1 (by rw[h];exact(eq_of_beq e).symm));rw[H];exact PX g
def U8:List (List UInt8):= [[99,111,109,112,101,116,105,116,105,111,110], [99,114,105,116,101,114,105,111,110], [102,114,111,109], [116,111], [115,116,101,112], [115,117,109], [109,101,97,110], [116,114,105,109], [109,101,100,105,97,110], [114,101,118,101,114,115,101], [98,111,110,117,115], [118,97,108,117,101], [109,111,115,116], [109,97,108,117,115], [116,105,101], [116,111,116,97,108], [115,99,111,114,101], [104,105,103,104,101,115,116], [114,117,108,101], [108,111,116], [114,111,117,110,100], [112,97,110,101,108], [113,117,111,116,97], [111,118,101,114], [117,110,100,101,114], [108,111,116,115], [102,114,101,101], [112,108,97,99,101,115], [112,114,105,122,101,115], [112,111,105,110,116,115], [98,101,115,116], [108,101,97,115,116], [103,114,101,97,116,101,115,116], [105,102], [117,112,116,111], [116,104,101,110], [101,108,115,101], [101,110,100]]
theorem Yb(h:∀l,l∈U8->(s.toList==l)=false):Ud s gY=false:=by refine Uk fun d=>?_;have a:(gY.all fun y=>U8.any fun l=>y.data.toList==l)=true:=py;obtain⟨l,b,e⟩:=iS.1 (cT.1 a s d);have:=h l b;rw[Lib.toList_data,e]at this;cases this
theorem U9(s:ByteArray)(w:World):Calls prog 190 #[s] w fun e w'=>e=.returned (.bool (Ud s gY))/\w=w':=by
 refine wid ?_;rcases cH (s.toList== [99,111,109,112,101,116,105,116,105,111,110])with b|b;·have a:=Hd (ae (l:= [99,111,109,112,101,116,105,116,105,111,110]) b py);refine ent func190 ntmps190 ?_;gi_wp2;go_ret;exact⟨by rw[a.out];first|rfl|simp[b],rfl⟩
 rcases cH (s.toList== [99,114,105,116,101,114,105,111,110])with d|d;·have a:=Hd (ae (l:= [99,114,105,116,101,114,105,111,110]) d py);refine ent func190 ntmps190 ?_;gi_wp2;go_ret;exact⟨by rw[a.out];first|rfl|simp[d],rfl⟩
 rcases cH (s.toList== [102,114,111,109])with z|z;·have a:=Hd (ae (l:= [102,114,111,109]) z py);refine ent func190 ntmps190 ?_;gi_wp2;go_ret;exact⟨by rw[a.out];first|rfl|simp[z],rfl⟩
 rcases cH (s.toList== [116,111])with O|O;·have a:=Hd (ae (l:= [116,111]) O py);refine ent func190 ntmps190 ?_;gi_wp2;go_ret;exact⟨by rw[a.out];first|rfl|simp[O],rfl⟩
 rcases cH (s.toList== [115,116,101,112])with h4|h4;·have a:=Hd (ae (l:= [115,116,101,112]) h4 py);refine ent func190 ntmps190 ?_;gi_wp2;go_ret;exact⟨by rw[a.out];first|rfl|simp[h4],rfl⟩
 rcases cH (s.toList== [115,117,109])with h5|h5;·have a:=Hd (ae (l:= [115,117,109]) h5 py);refine ent func190 ntmps190 ?_;gi_wp2;go_ret;exact⟨by rw[a.out];first|rfl|simp[h5],rfl⟩
 rcases cH (s.toList== [109,101,97,110])with h6|h6;·have a:=Hd (ae (l:= [109,101,97,110]) h6 py);refine ent func190 ntmps190 ?_;gi_wp2;go_ret;exact⟨by rw[a.out];first|rfl|simp[h6],rfl⟩
 rcases cH (s.toList== [116,114,105,109])with h7|h7;·have a:=Hd (ae (l:= [116,114,105,109]) h7 py);refine ent func190 ntmps190 ?_;gi_wp2;go_ret;exact⟨by rw[a.out];first|rfl|simp[h7],rfl⟩
 rcases cH (s.toList== [109,101,100,105,97,110])with h8|h8;·have a:=Hd (ae (l:= [109,101,100,105,97,110]) h8 py);refine ent func190 ntmps190 ?_;gi_wp2;go_ret;exact⟨by rw[a.out];first|rfl|simp[h8],rfl⟩
 rcases cH (s.toList== [114,101,118,101,114,115,101])with h9|h9;·have a:=Hd (ae (l:= [114,101,118,101,114,115,101]) h9 py);refine ent func190 ntmps190 ?_;gi_wp2;go_ret;exact⟨by rw[a.out];first|rfl|simp[h9],rfl⟩
 rcases cH (s.toList== [98,111,110,117,115])with f|f;·have a:=Hd (ae (l:= [98,111,110,117,115]) f py);refine ent func190 ntmps190 ?_;gi_wp2;go_ret;exact⟨by rw[a.out];first|rfl|simp[f],rfl⟩
 rcases cH (s.toList== [118,97,108,117,101])with g|g;·have a:=Hd (ae (l:= [118,97,108,117,101]) g py);refine ent func190 ntmps190 ?_;gi_wp2;go_ret;exact⟨by rw[a.out];first|rfl|simp[g],rfl⟩
 rcases cH (s.toList== [109,111,115,116])with i|i;·have a:=Hd (ae (l:= [109,111,115,116]) i py);refine ent func190 ntmps190 ?_;gi_wp2;go_ret;exact⟨by rw[a.out];first|rfl|simp[i],rfl⟩
 rcases cH (s.toList== [109,97,108,117,115])with j|j;·have a:=Hd (ae (l:= [109,97,108,117,115]) j py);refine ent func190 ntmps190 ?_;gi_wp2;go_ret;exact⟨by rw[a.out];first|rfl|simp[j],rfl⟩
 rcases cH (s.toList== [116,105,101])with m|m;·have a:=Hd (ae (l:= [116,105,101]) m py);refine ent func190 ntmps190 ?_;gi_wp2;go_ret;exact⟨by rw[a.out];first|rfl|simp[m],rfl⟩
 rcases cH (s.toList== [116,111,116,97,108])with o|o;·have a:=Hd (ae (l:= [116,111,116,97,108]) o py);refine ent func190 ntmps190 ?_;gi_wp2;go_ret;exact⟨by rw[a.out];first|rfl|simp[o],rfl⟩
 rcases cH (s.toList== [115,99,111,114,101])with t|t;·have a:=Hd (ae (l:= [115,99,111,114,101]) t py);refine ent func190 ntmps190 ?_;gi_wp2;go_ret;exact⟨by rw[a.out];first|rfl|simp[t],rfl⟩
 rcases cH (s.toList== [104,105,103,104,101,115,116])with u|u;·have a:=Hd (ae (l:= [104,105,103,104,101,115,116]) u py);refine ent func190 ntmps190 ?_;gi_wp2;go_ret;exact⟨by rw[a.out];first|rfl|simp[u],rfl⟩
 rcases cH (s.toList== [114,117,108,101])with x|x;·have a:=Hd (ae (l:= [114,117,108,101]) x py);refine ent func190 ntmps190 ?_;gi_wp2;go_ret;exact⟨by rw[a.out];first|rfl|simp[x],rfl⟩
 rcases cH (s.toList== [108,111,116])with y|y;·have a:=Hd (ae (l:= [108,111,116]) y py);refine ent func190 ntmps190 ?_;gi_wp2;go_ret;exact⟨by rw[a.out];first|rfl|simp[y],rfl⟩
 rcases cH (s.toList== [114,111,117,110,100])with D|D;·have a:=Hd (ae (l:= [114,111,117,110,100]) D py);refine ent func190 ntmps190 ?_;gi_wp2;go_ret;exact⟨by rw[a.out];first|rfl|simp[D],rfl⟩
 rcases cH (s.toList== [112,97,110,101,108])with E|E;·have a:=Hd (ae (l:= [112,97,110,101,108]) E py);refine ent func190 ntmps190 ?_;gi_wp2;go_ret;exact⟨by rw[a.out];first|rfl|simp[E],rfl⟩
 rcases cH (s.toList== [113,117,111,116,97])with F|F;·have a:=Hd (ae (l:= [113,117,111,116,97]) F py);refine ent func190 ntmps190 ?_;gi_wp2;go_ret;exact⟨by rw[a.out];first|rfl|simp[F],rfl⟩
 rcases cH (s.toList== [111,118,101,114])with G|G;·have a:=Hd (ae (l:= [111,118,101,114]) G py);refine ent func190 ntmps190 ?_;gi_wp2;go_ret;exact⟨by rw[a.out];first|rfl|simp[G],rfl⟩
 rcases cH (s.toList== [117,110,100,101,114])with H|H;·have a:=Hd (ae (l:= [117,110,100,101,114]) H py);refine ent func190 ntmps190 ?_;gi_wp2;go_ret;exact⟨by rw[a.out];first|rfl|simp[H],rfl⟩
 rcases cH (s.toList== [108,111,116,115])with I|I;·have a:=Hd (ae (l:= [108,111,116,115]) I py);refine ent func190 ntmps190 ?_;gi_wp2;go_ret;exact⟨by rw[a.out];first|rfl|simp[I],rfl⟩
 rcases cH (s.toList== [102,114,101,101])with J|J;·have a:=Hd (ae (l:= [102,114,101,101]) J py);refine ent func190 ntmps190 ?_;gi_wp2;go_ret;exact⟨by rw[a.out];first|rfl|simp[J],rfl⟩
 rcases cH (s.toList== [112,108,97,99,101,115])with K|K;·have a:=Hd (ae (l:= [112,108,97,99,101,115]) K py);refine ent func190 ntmps190 ?_;gi_wp2;go_ret;exact⟨by rw[a.out];first|rfl|simp[K],rfl⟩
 rcases cH (s.toList== [112,114,105,122,101,115])with L|L;·have a:=Hd (ae (l:= [112,114,105,122,101,115]) L py);refine ent func190 ntmps190 ?_;gi_wp2;go_ret;exact⟨by rw[a.out];first|rfl|simp[L],rfl⟩
 rcases cH (s.toList== [112,111,105,110,116,115])with N|N;·have a:=Hd (ae (l:= [112,111,105,110,116,115]) N py);refine ent func190 ntmps190 ?_;gi_wp2;go_ret;exact⟨by rw[a.out];first|rfl|simp[N],rfl⟩
 rcases cH (s.toList== [98,101,115,116])with P|P;·have a:=Hd (ae (l:= [98,101,115,116]) P py);refine ent func190 ntmps190 ?_;gi_wp2;go_ret;exact⟨by rw[a.out];first|rfl|simp[P],rfl⟩
 rcases cH (s.toList== [108,101,97,115,116])with Q|Q;·have a:=Hd (ae (l:= [108,101,97,115,116]) Q py);refine ent func190 ntmps190 ?_;gi_wp2;go_ret;exact⟨by rw[a.out];first|rfl|simp[Q],rfl⟩
 rcases cH (s.toList== [103,114,101,97,116,101,115,116])with S|S;·have a:=Hd (ae (l:= [103,114,101,97,116,101,115,116]) S py);refine ent func190 ntmps190 ?_;gi_wp2;go_ret;exact⟨by rw[a.out];first|rfl|simp[S],rfl⟩
 rcases cH (s.toList== [105,102])with T|T;·have a:=Hd (ae (l:= [105,102]) T py);refine ent func190 ntmps190 ?_;gi_wp2;go_ret;exact⟨by rw[a.out];first|rfl|simp[T],rfl⟩
 rcases cH (s.toList== [117,112,116,111])with X|X;·have a:=Hd (ae (l:= [117,112,116,111]) X py);refine ent func190 ntmps190 ?_;gi_wp2;go_ret;exact⟨by rw[a.out];first|rfl|simp[X],rfl⟩
 rcases cH (s.toList== [116,104,101,110])with Y|Y;·have a:=Hd (ae (l:= [116,104,101,110]) Y py);refine ent func190 ntmps190 ?_;gi_wp2;go_ret;exact⟨by rw[a.out];first|rfl|simp[Y],rfl⟩
 rcases cH (s.toList== [101,108,115,101])with Z|Z;·have a:=Hd (ae (l:= [101,108,115,101]) Z py);refine ent func190 ntmps190 ?_;gi_wp2;go_ret;exact⟨by rw[a.out];first|rfl|simp[Z],rfl⟩
 rcases cH (s.toList== [101,110,100])with aa|aa;·have a:=Hd (ae (l:= [101,110,100]) aa py);refine ent func190 ntmps190 ?_;gi_wp2;go_ret;exact⟨by rw[a.out];first|rfl|simp[aa],rfl⟩
 have a:=Hd (Yb (s:=s) (by simp only[U8,cD,eo,iB,forall_eq_or_imp,forall_eq];exact⟨b,d,z,O,h4,h5,h6,h7,h8,h9,f,g,i,j,m,o,t,u,x,y,D,E,F,G,H,I,J,K,L,N,P,Q,S,T,X,Y,Z,aa⟩));refine ent func190 ntmps190 ?_;gi_wp2;go_ret;exact⟨by rw[a.out];first|rfl|simp[*],rfl⟩
theorem GK(s:ByteArray)(w:World):Calls prog 145 #[s] w fun e w'=>e=.returned (.bool (bZ s))/\w=w':=by
 refine wid ?_;obtain⟨G,b⟩:=aC (nameB s);obtain⟨Q,d⟩:=aC (Ud s gY);have g:=Hd (show bZ s=(G&& !Q) by rw[bZ,b,d]);have a:=Hd b;have f:=Hd d;clear b d;cases G<;>cases Q
 all_goals
  refine ent func145 ntmps145 ?_
  gi_wp2_with (first
   |(refine Cl 190 (U9 _ _) ?_;rintro e w' ⟨rfl,rfl⟩;rw[f.out])
   |(refine Cl 189 (Rn _ _) ?_;rintro e w' ⟨rfl,rfl⟩;rw[a.out])
   |(refine⟨bO,?_⟩))
  go_ret;exact⟨by rw[g.out];first|rfl|simp,rfl⟩
theorem Ky(x:aU):iM x<=nodes x:=by
 induction x using iY with
 |_ x ih=>
  have a:∀l:List aU,(∀y,y∈l->iM y<=nodes y)->fO l<=dh l:=by
   intro l
   induction l with
   |nil=>intro _;simp[fO,dh]
   |cons y l ihl=>intro h;have b:=h y cw;have d:=ihl fun z m=>h z (bE _ m);rw[fO,dh];omega
  have:=a x.l ih;rw[IQ,gV];omega
theorem C_:∀(x:aU) {M:List Nat}{A:Option Addr}{m c:Nat}{w:World},Sl aU w M A m c x.l->nodes x<=100000->
 CB 188 #[.agg #[x.kind,x.name,x.n,x.d,.slice A m c]] (.int .i64 ((iM x:Nat):Int)) w:=by
 intro x
 induction x using iY with
 |_ x ih=>
 intro M A m c w hs hl;refine wid ?_;have ad:=hs.small;have HM:=Hd hs.len;have HN:=Hd (IQ x);have E:=Hd (cF (Ky x) hl);have II:=Hd (fun y (g:y∈x.l)=>cF (fK g) (show dh x.l<=100000 by have:=gV x;omega));obtain⟨l,Q⟩:=aC x.l;rw[Q]at hs HM HN ih II;have IH:=Hd ih;have H:=Hd hs;obtain⟨X,t⟩:=aC (iM x);rw[t]at HN E;obtain⟨kd,L⟩:=aC x.kind;obtain⟨nm,O⟩:=aC x.name;obtain⟨Z,S⟩:=aC x.n;obtain⟨xd,P⟩:=aC x.d;rw[L,O,S,P,t];clear hs ih Q t L O S P;obtain⟨W1,ac,F1⟩:=dR ((Fr.nil w).a w [kd,nm,Z,xd,.slice A m c] 66);refine op1 F1 ?_;intros;have F:=Hd F1;clear F1;refine ent func188 ntmps188 ?_;gi_wp2;gi_loopw[3,4] (fun v0 i wr=>∃k:Nat,k<=m/\v0=.int .i64 ((fO (l.take k):Nat):Int)/\i=k/\Hid (Fr w wr [(w, [kd,nm,Z,xd,.slice A m c])])) (fun _ i _=>m-(intOf i).toNat);case atStart=>exact⟨0,cf _,by simp[fO],rfl,F⟩
 case round=>
  obtain⟨k,hk,rfl,rfl,f⟩:=hrel;have J:=f.out;refine op1 J ?_;intros;clear J;obtain⟨T,j⟩:=aC (fO (l.take k));rw[j];have G:=Hd j;clear j;by_cases N:k<m
  ·obtain⟨y,g⟩:=dW l k (by rw[HM.out];exact N);obtain⟨b,o,B,n',d',rfl,⟨h0,h1,I,h3,h4⟩,-,hys⟩:=(H.out.go f.out.bl).qQ g;have z:=bh g;obtain⟨Y,u⟩:=aC (iM y);have HS:=Hd (show fO (l.take (k+1))=max T Y by rw[Cc g,G.out,u]);have D:=Hd (IH.out y z hys (II.out y z));rw[u]at D;clear g z u hys
   gi_wp2_with (first
    |(refine Cl 188 D.out ?_;rintro e w2 ⟨rfl,K⟩;have F2:=Hd (f.out.go K);clear K)
    |fail)
   exact⟨⟨k+1,pj,by rw[HS.out];simp;omega,by go_num,F2⟩,by simp[intOf];omega⟩
  ·have aa:k=m:=pj;clear hk N;subst aa;have e2:X=T+1:=by
    have h1:=HN.out;have I:=G.out;rw[bR (by rw[HM.out];exact bj _)]at I;omega
   subst e2;have ab:=E.out;gi_wp2;go_ret;exact⟨by first|rfl|(apply jL;go_num),f.out.bl⟩
theorem seven(a b c d e f g:Prop):a\/(¬a/\b)\/(¬a/\¬b/\c)\/(¬a/\¬b/\¬c/\d)\/(¬a/\¬b/\¬c/\¬d/\e)\/(¬a/\¬b/\¬c/\¬d/\¬e/\f)\/(¬a/\¬b/\¬c/\¬d/\¬e/\¬f/\g)\/(¬a/\¬b/\¬c/\¬d/\¬e/\¬f/\¬g):=by by_cases a<;>by_cases b<;>by_cases c<;>by_cases d<;>by_cases e<;>by_cases f<;>simp[*]<;>exact Classical.em g
theorem Kz{y:aJ}(h:256<nodes (au y)\/16<iM (au y)):jI y=false:=by unfold jI;exact cE pj
theorem GL{M:List Nat}{r:aS}{w:World}(hr:dG w M r s1 s2 s3 s4 s5 s6 s7):
 CB 143 #[.agg (aV r s1 s2 s3 s4 s5 s6 s7).toArray] (.bool (!fD r)) w:=by
 refine wid ?_;obtain⟨A4,G,c4⟩:=s4;obtain⟨A5,E,c5⟩:=s5;have xg:Sl dA w M A4 G c4 r.ties:=hr.ties;have xq:Sl aJ w M A5 E c5 r.rounds:=hr.rounds;have n1:=hr.aT.len;have n2:=hr.bonus.len;have n3:=hr.malus.len;have n4:=xg.len;have n5:=xq.len;have n6:=hr.prizes.len;have n7:=hr.points.len;have H:=Hd2 xg xq;have HL:=Hd2 n4 n5;have m4:=xg.small;have m5:=xq.small;obtain⟨W1,ae,F1⟩:=dR ((Fr.nil w).a w (aV r s1 s2 s3 ⟨A4,G,c4⟩ ⟨A5,E,c5⟩ s6 s7) 28);have hS:sJ r= [((s1.n:Int),(64:Int)),((s2.n:Int),64),((s3.n:Int),64),((G:Int),16),((E:Int),8),((s6.n:Int),64),((s7.n:Int),64)]:=by unfold sJ;rw[n1,n2,n3,n4,n5,n6,n7]
 have J:fD r=(!(sJ r).any jA&&r.ties.all jY&&r.rounds.all jI):=rfl;rw[hS]at J;simp only[ij,mR,jA,l6]at J;refine op1 F1 ?_;intros;have HF:=Hd F1;clear xg xq n1 n2 n3 n4 n5 n6 n7 hr F1 hS;rcases seven ((s1.n:Int)>64) ((s2.n:Int)>64) ((s3.n:Int)>64) ((G:Int)>16) ((E:Int)>8) ((s6.n:Int)>64) ((s7.n:Int)>64)with I|⟨I,L⟩|⟨I,L,O⟩|⟨I,L,O,Z⟩|⟨I,L,O,Z,g5⟩|⟨I,L,O,Z,g5,g6⟩|⟨I,L,O,Z,g5,g6,g7⟩|⟨I,L,O,Z,g5,g6,g7⟩
 iterate 7
  ·have f:=Hd (show(!fD r)=true by
     rw[J,iu,Bool.and_eq_false_iff,Bool.and_eq_false_iff,Bool.not_eq_false'];refine .inl (.inl ?_);simp only[ie,ef];omega)
   clear J;refine ent func143 ntmps143 ?_;gi_wp2;go_ret;exact⟨by rw[f.out];first|rfl|simp,HF.out.bl⟩
 have T:=Hd (show fD r=(r.ties.all jY&&r.rounds.all jI) by rw[J];have:∀a b:Bool,a=false->(!a&&b)=b:=pt;rw[iv];refine this _ _ ?_;simp only[iN,gM];omega);clear J;refine ent func143 ntmps143 ?_;gi_wp2;gi_loopw[3] (fun i wr=>∃k:Nat,k<=G/\i=k/\W1=wr/\Hid ((r.ties.drop k).all jY=r.ties.all jY)) (fun i _=>G-(intOf i).toNat);case atStart=>exact⟨0,cf _,rfl,by first|rfl|exact ae|exact ae.symm,Hd rfl⟩
 case round=>
  obtain⟨k,hk,rfl,rfl,X⟩:=hrel;by_cases S:k<G
  ·obtain⟨t,ab⟩:=dW r.ties k (by rw[HL.a];exact S);have z:=iC (P:=jY) ab;obtain⟨bb,o,B,m',d',rfl,⟨h0,h1⟩,hks⟩:=(H.a.go HF.out.bl).n_ ab;have aa:=hks.len;rw[X.out]at z;by_cases hm:(m':Int)>32
   ·have f:=Hd (show fD r=false by
      rw[T.out,z];unfold jY jA;rw[aa,cx hm];simp)
    clear ab z hks aa;gi_wp2;go_ret;exact⟨by rw[f.out];rfl,HF.out.bl⟩
   have af:=Hd (show(r.ties.drop (k+1)).all jY=r.ties.all jY by rw[z];unfold jY jA;rw[aa,cE hm];simp);clear ab z hks aa;gi_wp2;exact⟨⟨k+1,pj,by go_num,bO,af⟩,by simp[intOf];omega⟩
  ·have ai:k=G:=pj;have HT:=Hd (show r.ties.all jY=true by rw[<-X.out,jr (by rw[HL.a];omega)]);clear hk S;subst ai;gi_wp2;gi_loopw[4] (fun i wr=>∃j:Nat,j<=E/\i=j/\Hid (Fr w wr [(w,aV r s1 s2 s3 ⟨A4,k,c4⟩ ⟨A5,E,c5⟩ s6 s7)])/\Hid ((r.rounds.drop j).all jI=r.rounds.all jI)) (fun i _=>E-(intOf i).toNat);case atStart=>exact⟨0,cf _,rfl,HF,Hd rfl⟩
   case round=>
    obtain⟨j,hj,rfl,K,X⟩:=hrel;have m:=K.out;refine op1 m ?_;intros;clear m;by_cases S:j<E
    ·obtain⟨y,hy⟩:=dW r.rounds j (by rw[HL.u];exact S);have z:=iC (P:=jI) hy;obtain⟨b,o,B,m',d',rfl,-,⟨h6,h7,h8,h9,ad⟩,-,-,-,hys⟩:=(H.u.go K.out.bl).iw hy;have Y:=Hd (yR (au y) hys (show 256<=100000 by omega));rw[X.out]at z;obtain⟨P,hP⟩:=aC (qU (nodes (au y)) 256);obtain⟨D,hD⟩:=aC (iM (au y));have F:=Hd (And.intro hP hD);rw[hP]at Y;have N:=fB hy z hys;clear hy z hys hP hD;by_cases hp:(P:Int)>256
     ·have f:=Hd (show fD r=false by
        rw[T.out,N.b,Kz (.inl (by have:=F.a;unfold qU at this;omega))];simp)
      gi_wp2_with (first
       |(refine Cl 51 Y.out ?_;rintro e w2 ⟨rfl,d⟩;have x:=Hd (K.out.go d);have m:=x.out;refine op1 m ?_;intros;clear d m)
       |(refine⟨bO,?_⟩))
      go_ret;exact⟨by rw[f.out];rfl,x.out.bl⟩
     by_cases hd:(D:Int)>16
     ·have f:=Hd (show fD r=false by
        rw[T.out,N.b,Kz (.inr (by have:=F.u;omega))];simp)
      gi_wp2_with (first
       |(have g:=x.out;clear g;refine Cl 188 ac.out ?_;rintro e w3 ⟨rfl,Q⟩;rw[F.u];have F3:=Hd (x.out.go Q);clear Q)
       |(refine Cl 51 Y.out ?_;rintro e w2 ⟨rfl,d⟩;have x:=Hd (K.out.go d);have ac:=Hd (C_ (au y) (N.v.go d) (by have:=F.a;unfold qU at this;omega));have m:=x.out;have aj:=Hd d;have e6:=(bq d []).cell po h6;have e7:=(bq d []).cell po h7;have e8:=(bq d []).cell po h8;have e9:=(bq d []).cell po h9;have ag:=(bq d []).cell po ad;refine op1 m ?_;intros;clear d m)
       |fail)
      go_ret;exact⟨by rw[f.out];rfl,F3.out.bl⟩
     have f:=Hd (show(r.rounds.drop (j+1)).all jI=r.rounds.all jI by rw[N.b];have:jI y=true:=cx (by have:=F.a;have:=F.u;unfold qU at*;omega);rw[this,fm])
     gi_wp2_with (first
      |(have g:=x.out;clear g;refine Cl 188 ac.out ?_;rintro e w3 ⟨rfl,Q⟩;rw[F.u];have F3:=Hd (x.out.go Q);clear Q)
      |(refine Cl 51 Y.out ?_;rintro e w2 ⟨rfl,d⟩;have x:=Hd (K.out.go d);have ac:=Hd (C_ (au y) (N.v.go d) (by have:=F.a;unfold qU at this;omega));have m:=x.out;have e6:=(bq d []).cell po h6;have e7:=(bq d []).cell po h7;have e8:=(bq d []).cell po h8;have e9:=(bq d []).cell po h9;have ag:=(bq d []).cell po ad;refine op1 m ?_;intros;clear d m)
      |fail)
     exact⟨⟨j+1,pj,by go_num,F3,f⟩,by simp[intOf];omega⟩
    ·have ah:j=E:=pj;have f:=Hd (show fD r=true by rw[T.out,HT.out,<-X.out,jr (by rw[HL.u];omega)];rfl);clear hj S;subst ah;gi_wp2;go_ret;exact⟨by rw[f.out];rfl,K.out.bl⟩
attribute [local go_sem] cX
def tS(t0 t1 t2 t3:dK):Nat->dK
 |0=>t0
 |1=>t1
 |2=>t2
 |_=>t3
def NY(r:aS):Nat->List ByteArray
 |0=>dP r
 |1=>UG r
 |2=>jF r
 |_=>dQ r
theorem JO.nth{w:World}{M:List Nat}{r:aS}{t0 t1 t2 t3:dK}(h:JO w M r t0 t1 t2 t3):∀i,Sl ByteArray w M (tS t0 t1 t2 t3 i).A (tS t0 t1 t2 t3 i).n (tS t0 t1 t2 t3 i).c (NY r i)
 |0=>h.c
 |1=>h.i
 |2=>h.t
 |_+3=>h.r
theorem U_(t0 t1 t2 t3:dK):∀i,i<4->(Af t0 t1 t2 t3)[i]?=some (.slice (tS t0 t1 t2 t3 i).A (tS t0 t1 t2 t3 i).n (tS t0 t1 t2 t3 i).c)
 |0,_=>rfl
 |1,_=>rfl
 |2,_=>rfl
 |3,_=>rfl
 |_+4,h=>by omega
def uZ(r:aS):Nat->Bool
 |0=>bZ r.name
 |i+1=>uZ r i&&(NY r i).all bZ
def vN(nm:List ByteArray):Nat->Bool
 |0=>false
 |k+1=>vN nm k||decide (¬dO nm (nm.getD k ByteArray.empty)=(k:Int))
def Fb(r:aS):Nat->Bool
 |0=>false
 |i+1=>Fb r i||vN (NY r i) (NY r i).length
def vO(r:aS)(y:aJ):aJ:=(y.1,y.2.1,y.2.2.1,y.2.2.2.1,y.2.2.2.2.1,y.2.2.2.2.2.1,fH (dP r) (dQ r) (au y),qX y,if(qX y).toList= []then-1 else dO (jF r) (qX y))
def Va(r:aS)(y:aJ):Bool:=okR (dP r) (dQ r) (au y)&&(decide ((qX y).toList= [])||decide (0<=dO (jF r) (qX y)))
def yV(r:aS)(t:dA):dA:=(t.1,t.2.map (iW (dP r) (dQ r) (jF r)))
def okT(r:aS)(t:dA):Bool:=t.2.all (I_ (dP r) (dQ r) (jF r))
def Fe(r:aS):aS:={ r with ties:=r.ties.map (yV r),rounds:=r.rounds.map (vO r) }
def Yc(r:aS):Bool:=r.ties.all (okT r)&&r.rounds.all (Va r)
def jJ(r:aS):Int:=if fD r=false then 2 else if uZ r 4=false then 140 else if Fb r 4=true then 141 else if Yc r=false then 140 else 0
theorem Vb{M:List Nat}{r:aS}{w:World}(hr:dG w M r s1 s2 s3 s4 s5 s6 s7)(hs:fD r=false):
 CB 101 #[.agg (aV r s1 s2 s3 s4 s5 s6 s7).toArray] (.tuple #[.agg nR.toArray,.int .i64 2]) w:=by
 refine wid ?_;obtain⟨W1,o,F1⟩:=dR (((Fr.nil w).a w (aV r s1 s2 s3 s4 s5 s6 s7) 28).a (w+1) nR 28);refine op1 F1 ?_;intros;have H:=Hd (hr.go F1.bl);have j:=Hd hs;have HF:=Hd F1;clear F1 hr hs;refine ent func101 ntmps101 ?_
 gi_wp2_with (first
  |(refine Cl 143 (GL H.out) ?_;rintro e g ⟨rfl,hb⟩;rw[j.out];have d:=Hd (HF.out.go hb);have f:=d.out;refine op1 f ?_;intros;clear hb f)
  |fail)
 clear o;refine(fun(h:∀U,fM g (w.heap.size+1) 0 nR=U->bodyPost _ _ _ _ _ U)=>h _ rfl) ?_;intro U m;have kb:=iO (w:=g) (b:=w+1) (vs:=nR) (us:=nR) (fun i u t=>d.out.at_ (w.heap.size+1) _ po i u t) rfl m;have x:=(kb.1 0 _ rfl).1;have y:=(kb.1 1 _ rfl).1;have z:=(kb.1 2 _ rfl).1;have D:=(kb.1 3 _ rfl).1;have E:=(kb.1 4 _ rfl).1;have F:=(kb.1 5 _ rfl).1;have G:=(kb.1 6 _ rfl).1;have I:=(kb.1 7 _ rfl).1;have J:=(kb.1 8 _ rfl).1;exact⟨rfl,.tuple #[.agg nR.toArray,.int .i64 2],by simp[results,go_sem,x,y,z,D,E,F,G,I,J],rfl,d.out.bl.trans (kb.2.bl.mono pj)⟩
end
theorem GZ(x:aU):∀y,fE x y=true↔x=y:=by
 induction x using iY with
 |_ x ih=>
  have i:∀l f:List aU,(∀y,y∈l->∀z,fE y z=true↔y=z)->(fQ l f=true↔l=f):=by
   intro l
   induction l with
   |nil=>
    intro f _
    cases f with
    |nil=>simp[fQ]
    |cons _ _=>simp[fQ]
   |cons a l ihl=>
    intro f h
    cases f with
    |nil=>simp[fQ]
    |cons b f=>rw[fQ,cS,h a cw b,ihl f (fun y g=>h y (bE _ g)),mU]
  intro y;rw[KA];simp only[cS,ef,i x.l y.l ih];cases x;cases y;simp[aU.kind,aU.name,aU.n,aU.d,aU.l,and_assoc]
def xU(r:aS)(k:bK):Bool:=decide (iW (dP r) (dQ r) (jF r) k=k)
def KE(r:aS)(y:aJ):Bool:=decide ((vO r y).2.2.2.2.2.2.2.2=y.2.2.2.2.2.2.2.2)&&fE (fH (dP r) (dQ r) (au y)) (au y)
def xX(r:aS):Bool:=(r.ties.all fun t=>t.2.all (xU r))&&r.rounds.all (KE r)
def xY(r:aS):Int:=if jJ r=0 then(if xX r=true then 0 else 140)else jJ r
theorem Dl{r:aS}(h:xY r=0):jJ r=0/\xX r=true:=by
 unfold xY at h;split at h
 ·rename_i h1;split at h;·rename_i h2;exact⟨h1,h2⟩
  cases h
 rename_i h1;exact absurd h h1
theorem Dn{r:aS}(h:jJ r=0):fD r=true/\uZ r 4=true/\Fb r 4=false/\Yc r=true:=by
 unfold jJ at h
 cases b:fD r with
 |false=>rw[b,if_pos rfl]at h;cases h
 |true=>
  cases d:uZ r 4 with
  |false=>rw[b,d,if_neg po,if_pos rfl]at h;cases h
  |true=>
   cases a:Fb r 4 with
   |true=>rw[b,d,a,if_neg po,if_neg po,if_pos rfl]at h;cases h
   |false=>
    cases F:Yc r with
    |false=>rw[b,d,a,F,if_neg po,if_neg po,if_neg po,if_pos rfl]at h;cases h
    |true=>exact⟨rfl,rfl,rfl,rfl⟩
theorem Qi{nm:List ByteArray}:∀(n:Nat),vN nm n=false->∀(k:Nat) (s:ByteArray),k<n->nm[k]?=some s->dO nm s=(k:Int)
 |0,_,k,_,hk,_=>by omega
 |n+1,h,k,s,hk,hs=>by
  unfold vN at h;rw[iN]at h;by_cases e:k=n;·subst e;have h2:=gp h.2;rw[cC,hs]at h2;exact Classical.byContradiction h2
  exact Qi n h.1 k s pj hs
theorem xZ{nm:List ByteArray}(h:vN nm nm.length=false):dX nm nm.length=true:=Qb (fun k s hs=>Qi _ h k s (bu.1 hs).1 hs) _ pD
theorem G_(h:bZ s=true):s.size<=maxLen:=by unfold bZ nameB at h;simp only[cS,ef]at h;have:=h.1.1.1.2;unfold maxLen;omega
theorem Dp(h:s.toList= []):s.size<=maxLen:=by
 rw[Lib.toList_data]at h;have:s.size=0:=by show s.data.size=0;rw[<-gG,h];rfl
 rw[this];exact cf _
theorem uG{nm:List ByteArray}(hf:nm.all bZ=true)(h:0<=dO nm s):s.size<=maxLen:=by obtain⟨k,a⟩:∃k:Nat,dO nm s=(k:Int):=⟨(dO nm s).toNat,pj⟩;exact G_ (cT.1 hf s (bh (I8 a)))
theorem Qj{α:Type}{f:α->α}:∀{l:List α},l.map f=l->∀x,x∈l->f x=x
 |y::l,h,x,hx=>by
  rw[eV,mU]at h;rcases cD.1 hx with rfl|hx;·exact h.1
  exact Qj h.2 x hx
theorem Qk{α:Type}{f:α->α}:∀{l:List α},(∀x,x∈l->f x=x)->l.map f=l
 | [],_=>rfl
 |y::l,h=>by rw[eV,h y cw,Qk (fun x hx=>h x (bE _ hx))]
theorem agy(hc:dX cn cn.length=true)(hr:dX rn rn.length=true)(x:aU):okR cn rn x=true->fH cn rn x=x->iV cn rn x=false/\lC cn rn x=x:=by
 induction x using iY with
 |_ x ih=>
  intro j t;obtain⟨k,s,n,d,l⟩:=x;rw[okR,cS,qC,cT]at j;rw[iV,lC];have m:=t;rw[fH,mg,aU.mk.injEq]at m;replace ih:∀y,y∈l->okR cn rn y=true->fH cn rn y=y->iV cn rn y=false/\lC cn rn y=y:=ih;obtain⟨-,-,f,-,u⟩:=m;have z:=Qj u;have o:=fun y g=>ih y g (j.2 y g) (z y g);have H:Gv cn rn l=false:=by rw[nP,List.any_eq_false];intro y g;rw[(o y g).1];simp
  have O:E5 cn rn l=l:=by rw[xH];exact Qk (fun y g=>(o y g).2)
  rw[H,O,l6];have b:=j.1;unfold sO qW;by_cases a:k=2;·rw[if_pos a]at f b;have:=qB hc (cW b);rw[if_pos a,if_pos a,this.2,f];exact⟨this.1,rfl⟩
  ·rw[if_neg a]at f b;rw[if_neg a,if_neg a];by_cases i:k=5;·rw[if_pos i]at f b;have:=qB hr (cW b);rw[if_pos i,if_pos i,this.2,f];exact⟨this.1,rfl⟩
   rw[if_neg i,if_neg i];exact⟨rfl,rfl⟩
theorem N_{k:Int}{nu:Bool}(h:qZ vT k=some (u_ p nu true)):k=2\/k=5:=by
 simp only[vT,qZ]at h;by_cases d:k=2;·exact .inl d
 by_cases a:k=5;·exact .inr a
 exfalso
 repeat' split at h
 all_goals first|omega|(simp[u_]at h)
theorem Yg{y:aU}(h:pX y)(h2:¬y.kind=2)(h5:¬y.kind=5):y.name.toList= []:=by
 obtain⟨d,b,h,a,-⟩:=h
 cases b with
 |false=>exact a rfl
 |true=>exact absurd (N_ h) pj
theorem Yh(hc:cn.all bZ=true)(hr:rn.all bZ=true)(x:aU):okR cn rn x=true->(∀y,y∈iZ x->¬y.kind=2->¬y.kind=5->y.name.toList= [])->Ut x:=by
 induction x using iY with
 |_ x ih=>
  intro d i;rw[I9,cS,qC,cT]at d;have m:=i x (by rw[lW];exact cw);have o:∀y,y∈x.l->Ut y:=fun y g=>ih y g (d.2 y g) (fun z t=>i z (by rw[lW];exact bE _ (qF g t)));have u:∀l:List aU,(∀y,y∈l->Ut y)->XU l:=by
   intro l
   induction l with
   |nil=>intro _;rw[XU];trivial
   |cons a l ihl=>intro h;rw[XU];exact⟨h a cw,ihl fun y g=>h y (bE _ g)⟩
  have hs:x.name.size<=maxLen:=by
   have b:=d.1;by_cases f:x.kind=2;·rw[if_pos f]at b;exact uG hc (cW b)
   rw[if_neg f]at b;by_cases j:x.kind=5;·rw[if_pos j]at b;exact uG hr (cW b)
   exact Dp (m f j)
  have:=u x.l o;cases x;rw[Ut];exact⟨hs,this⟩
theorem Oa{tn:List ByteArray}(hc:dX cn cn.length=true)(hr:dX rn rn.length=true)(ht:dX tn tn.length=true)(h1:I_ cn rn tn k=true)(h2:iW cn rn tn k=k):
 (k.1=1->0<=dO cn k.2.1/\lU cn k.2.1 k.2.2)/\(k.1=2->0<=dO rn k.2.1/\lU rn k.2.1 k.2.2)/\(k.1=5->0<=dO tn k.2.1/\lU tn k.2.1 k.2.2):=by
 obtain⟨kd,nm,n⟩:=k;unfold iW at h2;unfold I_ at h1;simp only at h1 h2 |-;refine⟨fun e=>?_,fun e=>?_,fun e=>?_⟩;·rw[if_pos e]at h1 h2;simp only[fc,true_and]at h2;have a:=cW h1;exact⟨a,h2▸qB hc a⟩
 ·rw[if_neg pj,if_pos e]at h1 h2;simp only[fc,true_and]at h2;have a:=cW h1;exact⟨a,h2▸qB hr a⟩
 ·rw[if_neg pj,if_neg pj,if_pos e]at h1 h2;simp only[fc,true_and]at h2;have a:=cW h1;exact⟨a,h2▸qB ht a⟩
structure RF(r:aS):Prop where
 parts:∀y,y∈r.rounds->nodes (au y)<=1000
 len:r.aT.length<=1000/\r.bonus.length+r.malus.length<=1000/\r.ties.length<=1000/\r.rounds.length<=1000
 NT:∀t,t∈r.ties->t.2.length<=1000
theorem agz{r:aS}(hc:xY r=0)(hw:RF r)(hf:F15 r):ZH r:=by
 obtain⟨X,d⟩:=Dl hc;obtain⟨Q,S,T,f⟩:=Dn X;have F:(bZ r.name&&(dP r).all bZ&&(UG r).all bZ&&(jF r).all bZ&&(dQ r).all bZ)=true:=S;have G:(false||vN (dP r) (dP r).length||vN (UG r) (UG r).length||vN (jF r) (jF r).length||vN (dQ r) (dQ r).length)=false:=T;simp only[cS]at F;simp only[iN]at G;obtain⟨⟨⟨⟨f0,f1⟩,f2⟩,f3⟩,f4⟩:=F;obtain⟨⟨⟨⟨-,N⟩,d2⟩,d3⟩,d4⟩:=G;have u:=xZ N;have o2:=xZ d2;have D:=xZ d3;have E:=xZ d4;unfold xX at d;rw[cS,cT,cT]at d;unfold Yc at f;rw[cS,cT,cT]at f;have b:∀{nm:List ByteArray},nm.all bZ=true->∀s,s∈nm->s.size<=maxLen:=fun h s hs=>G_ (cT.1 h s hs)
 refine⟨Q,hw.parts,hw.len,hw.NT,fun x hx=>b f1 _ (mN hx),fun x hx=>b f2 _ (mN hx),fun x hx=>b f3 _ (mN hx),fun x hx=>b f4 _ (mN hx),
  by have:=f1;rwa [List.all_map]at this,by have:=f2;rwa [List.all_map]at this,by have:=f3;rwa [List.all_map]at this,by have:=f4;rwa [List.all_map]at this,
  by have:=u;rwa [ck]at this,by have:=o2;rwa [ck,cJ]at this,by have:=D;rwa [ck]at this,by have:=E;rwa [ck]at this,f0,fun t j k i=>?_,fun y m=>?_⟩
 ·have O:iW (dP r) (dQ r) (jF r) k=k:=cW (cT.1 (d.1 t j) k i);have a:=cT.1 (f.1 t j) k i;obtain⟨I,J,K⟩:=Oa u E D a O;have L:=(hf.ties t j).2 k i;refine⟨?_,fun e=>(I e).2,fun e=>(J e).2,fun e=>(K e).2⟩;rcases L with e|e|e|e;·exact uG f1 (I e).1
  ·exact uG f4 (J e).1
  ·exact uG f3 (K e).1
  exact Dp e.2.2
 have g:=d.2 y m;unfold KE at g;rw[cS,ef,GZ]at g;obtain⟨O,P⟩:=g;replace O:(if(qX y).toList= []then-1 else dO (jF r) (qX y))=XE y:=O;have a:=f.2 y m;unfold Va at a;rw[cS,ie,ef,ef]at a;obtain⟨q1,q2⟩:=agy u E (au y) a.1 P;obtain⟨-,-,-,-,k0,k1⟩:=hf.rounds y m;refine⟨Yh f1 f4 (au y) a.1 (fun z o d Y=>?_),q1,q2,?_,?_⟩
 ·cases H:y.2.2.2.2.1 with
  |false=>exact Yg (k1 H z o) d Y
  |true=>obtain⟨-,aa,-,-,Z⟩:=k0 H;rw[lW,Z,Ah,bz]at o;rw[o];exact aa
 ·by_cases e:(qX y).toList= [];·exact Dp e
  exact uG f3 (a.2.resolve_left e)
 by_cases e:(qX y).toList= [];·rw[if_pos e]at O;exact .inl ⟨e,O.symm⟩
 rw[if_neg e]at O;exact .inr ⟨e,O▸qB D (a.2.resolve_left e)⟩
section
open Go.RowKit Go.Shelf
theorem aW{w W:World}{L:List (Nat×List Value)}{q:Prop}(h:Fr w W L)(e:At W L=q:=by(simp only[df,d_,At,Ce,dC,Nat.reduceAdd,and_true];exact rfl)):q:=e▸h.Um
structure GN(α:Type) [kJ α] (e:TypeId)(w W wr:World)(r:aS)(R:List Value)(lb xb:Nat)(t0 t1 t2 t3:dK)(M:List Nat)(C:List Value)(v:Value)(l:List α):Prop where
 fr:Fr w wr ([(w.heap.size,R),(w.heap.size+1,nR),(lb,Af t0 t1 t2 t3)]++ [(xb,C)])
 nm:JO W [xb] r t0 t1 t2 t3
 own:bD α e wr (xb::(w.heap.size+1)::M) W.heap.size v l.length l
 kp:Keeps [xb] W wr
 xW:xb<W.heap.size
 lx:lb<xb
 wl:w.heap.size+1<lb
 bM:∀q,q∈M->q<w.heap.size
section
variable {α:Type} [kJ α] {e:TypeId}{w W wr wz:World}{r:aS}{R:List Value}{lb xb:Nat}{t0 t1 t2 t3:dK}{M:List Nat}{C:List Value}{v:Value}{l:List α}
theorem GN.go(h:GN α e w W wr r R lb xb t0 t1 t2 t3 M C v l)(hb:Below wr wr wz):GN α e w W wz r R lb xb t0 t1 t2 t3 M C v l:=⟨h.fr.go hb,h.nm,h.own.go hb,h.kp.trans (du hb _),h.xW,h.lx,h.wl,h.bM⟩
theorem GN.start(h:Fr w wr ([(w.heap.size,R),(w.heap.size+1,nR),(lb,Af t0 t1 t2 t3)]++ [(xb,C)]))(hn:JO wr [xb] r t0 t1 t2 t3)(lx:lb<xb)(wl:w.heap.size+1<lb)(hM:∀q,q∈M->q<w.heap.size):GN α e w wr wr r R lb xb t0 t1 t2 t3 M C (.slice none 0 0) []:=⟨h,hn,bD.nil _ _ _,cG _ _,h.lt xb C po,lx,wl,hM⟩
theorem GN.nmr(h:GN α e w W wr r R lb xb t0 t1 t2 t3 M C v l):JO wr [xb] r t0 t1 t2 t3:=⟨h.nm.c.keep h.kp,h.nm.i.keep h.kp,h.nm.t.keep h.kp,h.nm.r.keep h.kp⟩
theorem GN.lt(h:GN α e w W wr r R lb xb t0 t1 t2 t3 M C v l)(hq:q∈xb::(w.heap.size+1)::M):q<W.heap.size:=by
 have b:=h.xW;have d:=h.lx;have a:=h.wl;rcases cD.1 hq with rfl|hq;·exact b
 exact akA
theorem GN.bel(h:GN α e w W wr r R lb xb t0 t1 t2 t3 M C v l):b_ (bP v++(xb::(w.heap.size+1)::M)) wr:=fun q hq=>by
 rcases cK.1 hq with hq|hq;·exact(h.own.lt (bJ.1 hq)).2
 exact bX (h.lt hq) h.kp.size
theorem GN.sl(h:GN α e w W wr r R lb xb t0 t1 t2 t3 M C v l)(hn:l.length<=100000):∃A c,v=.slice A l.length c/\Sl α wr (xb::(w.heap.size+1)::M) A l.length c l:=h.own.sl pj (fun _ hk=>h.lt hk)
theorem GN.step{t:TypeId}(h:GN α e w W wr r R lb xb t0 t1 t2 t3 M C v l)(ht:prog.underlying t=some (.slice e))(hi:iU e (Rep.sz α)){x:α}{cs:List Value}(hx:Rep.rd wr (bP v++(xb::(w.heap.size+1)::M)) x cs){j:Nat}{u0:Value}(hj:C[j]?=some u0)(hl:l.length<=100000):
 ∃v' wA,(Builtin.append_ #[t,t] t #[v,.slice (some ⟨wr,0,none⟩) 1 1]).run prog (wr.alloc (.cells cs.toArray e))=.ok v' wA/\Fr w wA ([(w.heap.size,R),(w.heap.size+1,nR),(lb,Af t0 t1 t2 t3)]++ [(xb,C)])/\GN α e w W (wA.setCell ⟨xb,j,none⟩ v') r R lb xb t0 t1 t2 t3 M (C.set j v') v' (l++ [x]):=by
 have y:=h.xW;have z:=h.lx;have D:=h.wl;obtain⟨v',wA,u,T,m,d,E⟩:=h.own.app1 (x:=x) (cs:=cs) ht hi h.kp.size (fun q a=>bX (h.lt a) h.kp.size) hx hl;have i:=h.fr.ZI m (fun k f=>by have F:=(h.own.lt f).1;refine⟨pj,fun b vs g e=>?_⟩;subst e;simp only[d_,df,cD,fc,eo,iB]at g;omega);refine⟨v',wA,u,i,⟨i.qY (fun c vs g e=>by subst e;simp only[cD,fc,eo,iB]at g;omega) hj v',h.nm,?_,(h.kp.grown m (fun k f=>.inr (h.own.lt f).1)).setCell (p:=⟨xb,j,none⟩) (.inl po) v',h.xW,h.lx,h.wl,h.bM⟩⟩;·have o:(l++ [x]).length=l.length+1:=po;rw[o];exact T.apart ((cG [xb] wA).setCell (p:=⟨xb,j,none⟩) (.inl po) v') (fun q a=>by rw[bz]at a;subst a;exact cw) (fun q a e=>by rw[bz]at a;subst a;exact Nl)
end
structure Qe(V W wr:World)(tb:Nat)(M:List Nat)(nm:ByteArray)(v:Value)(l:List bK):Prop where
 fr:Fr V wr ([]++ [(tb, [.string nm,v])])
 own:bD bK 113 wr (tb::M) W.heap.size v l.length l
 kp:Keeps [tb] W wr
 tW:tb<W.heap.size
 VW:V.heap.size<=W.heap.size
 bM:∀q,q∈M->q<W.heap.size
section
variable {V W wr wz:World}{tb:Nat}{M:List Nat}{nm:ByteArray}{v:Value}{l:List bK}
theorem Qe.go(h:Qe V W wr tb M nm v l)(hb:Below wr wr wz):Qe V W wz tb M nm v l:=⟨h.fr.go hb,h.own.go hb,h.kp.trans (du hb _),h.tW,h.VW,h.bM⟩
theorem Qe.start(h:Fr V wr ([]++ [(tb, [.string nm,.slice none 0 0])]))(hM:∀q,q∈M->q<wr.heap.size):Qe V wr wr tb M nm (.slice none 0 0) []:=⟨h,bD.nil _ _ _,cG _ _,h.lt tb _ (cP _ (bz.2 rfl)),h.bl.size,hM⟩
theorem Qe.lt(h:Qe V W wr tb M nm v l)(hq:q∈tb::M):q<W.heap.size:=by
 rcases cD.1 hq with rfl|hq;·exact h.tW
 exact h.bM q hq
theorem Qe.sl(h:Qe V W wr tb M nm v l)(hn:l.length<=100000):∃A c,v=.slice A l.length c/\Sl bK wr (tb::M) A l.length c l:=h.own.sl pj (fun _ hk=>h.lt hk)
theorem Qe.step(h:Qe V W wr tb M nm v l){x:bK}(hi:i64 x.1/\i64 x.2.2)(hl:l.length<=100000):
 ∃v' wA,(Builtin.append_ #[110,110] 110 #[v,.slice (some ⟨wr,0,none⟩) 1 1]).run prog (wr.alloc (.cells #[x.1,x.2.1,x.2.2] 113))=.ok v' wA/\Fr V wA ([]++ [(tb, [.string nm,v])])/\Qe V W (wA.setCell ⟨tb,1,none⟩ v') tb M nm v' (l++ [x]):=by
 have f:(tb, [.string nm,v])∈([]++ [(tb, [.string nm,v])]:List (Nat×List Value)):=cP _ (bz.2 rfl);obtain⟨v',wA,u,T,m,d,z⟩:=h.own.app1 (x:=x) (cs:= [x.1,x.2.1,x.2.2]) underlying110 aaM h.kp.size (fun q a=>bX (h.lt a) h.kp.size) ⟨[_],_,rfl,⟨rfl,hi.1⟩, [_],_,rfl,rfl,⟨rfl,hi.2⟩⟩ hl;have i:=h.fr.ZI m (fun k g=>by have F:=(h.own.lt g).1;have y:=h.VW;have o:=h.tW;refine⟨pj,fun b vs f e=>?_⟩;subst e;simp only[df,cD,fc,eo,iB]at f;omega);refine⟨v',wA,u,i,⟨i.qY (j:=1) (u0:=v) (fun c vs f=>by cases f) rfl v',?_,(h.kp.grown m (fun k g=>.inr (h.own.lt g).1)).setCell (p:=⟨tb,1,none⟩) (.inl po) v',h.tW,h.VW,h.bM⟩⟩;have t:(l++ [x]).length=l.length+1:=po;rw[t];exact T.apart ((cG [tb] wA).setCell (p:=⟨tb,1,none⟩) (.inl po) v') (fun q a=>by rw[bz]at a;subst a;exact cw) (fun q a e=>by rw[bz]at a;subst a;have o:=h.tW;exact Nl)
end
theorem agA{w:World}{M:List Nat}{nm:ByteArray}{l:List bK}(hs:Sl bK w M A n c l):Rep.rd w M ((nm,l):dA) [nm,.slice A n c]:=⟨[_], [_],rfl,rfl,A,n,c,rfl,hs⟩
attribute [local go_sem] cX
theorem RG(s:ByteArray)(a b:Int)(w:World):(binOp .neq 156 (.agg #[s,a,b]) (.agg #[s,a,b])).run prog w=.ok false w:=by go_simp
theorem RH(s:ByteArray)(a b c d e:Int)(v:Bool)(w:World):(binOp .neq 59 (.agg #[s,a,b,c,d,e,v]) (.agg #[s,a,b,c,d,e,v])).run prog w=.ok false w:=by go_simp
theorem Dq{M:List Nat}{l:List Int}{w:World}(hs:Sl Int w M A n c l):
 CB 152 #[.slice A n c,.slice A n c] true w:=by
 refine wid ?_;have a:=hs.len;have j:=hs.small;have H:=Hd hs
 skip
 clear hs;refine ent func152 ntmps152 ?_;gi_wp2;gi_loopw[5] (fun i wr=>∃k:Nat,k<=n/\i=k/\Below w w wr) (fun i _=>n-(intOf i).toNat);case atStart=>exact⟨0,cf _,rfl,bL _ _⟩
 case round=>
  obtain⟨k,g,rfl,hb⟩:=hrel;by_cases d:k<n;·obtain⟨b,o,y,rfl,f,-,-,-⟩:=(H.out.go hb).pR d;have v0:=ah f;exact Bj
  ·obtain rfl:k=n:=pj;clear g d a;gi_wp2;go_ret;exact⟨rfl,hb⟩
theorem zT{M:List Nat}{l:List bW}{w:World}(hs:Sl bW w M A n c l):
 CB 149 #[.slice A n c,.slice A n c] true w:=by
 refine wid ?_;have a:=hs.len;have u:=hs.small;have H:=Hd hs;have x:=RG;clear hs;refine ent func149 ntmps149 ?_;gi_wp2;gi_loopw[5] (fun i wr=>∃k:Nat,k<=n/\i=k/\Below w w wr) (fun i _=>n-(intOf i).toNat);case atStart=>exact⟨0,cf _,rfl,bL _ _⟩
 case round=>
  obtain⟨k,m,rfl,hb⟩:=hrel;by_cases g:k<n;·obtain⟨y,j⟩:=dW l k (by rw[a];exact g);obtain⟨b,o,t,rfl,f,d⟩:=(H.out.go hb).get j;obtain⟨rfl,-⟩:=aaI f;have v0:=ah (show wr.cell? ⟨b,o+k*3,none⟩=some (.string y.1)from d.2 0 _ rfl);have v1:=ah (show wr.cell? ⟨b,o+k*3+1,none⟩=some (.int .i64 y.2.1)from d.2 1 _ rfl);have v2:=ah (show wr.cell? ⟨b,o+k*3+2,none⟩=some (.int .i64 y.2.2)from d.2 2 _ rfl);clear f d j;exact Bj
  ·obtain rfl:k=n:=pj;clear m g a;gi_wp2;go_ret;exact⟨rfl,hb⟩
def ahQ(x:aU):Prop:=∀{y:aU}{M M':List Nat}{A B:Option Addr}{m c m' c':Nat}{w:World},Sl aU w M A m c x.l->Sl aU w M' B m' c' y.l->Calls prog 153 #[.agg #[x.kind,x.name,x.n,x.d,.slice A m c],.agg #[y.kind,y.name,y.n,y.d,.slice B m' c']] w fun e w'=>e=.returned (.bool (fE x y))/\Below w w w'
theorem He(x:aU):ahQ x:=by
 induction x using iY with
 |_ x ih=>
 intro y M M' A B m c m' c' w hs X;obtain⟨b,s1,j,o,f⟩:=x;obtain⟨S,s2,F,E,g⟩:=y;simp only[aU.kind,aU.name,aU.n,aU.d,aU.l]at hs X |-;refine wid ?_;obtain⟨W1,ag,F1⟩:=dR (((Fr.nil w).a w [b,s1,j,o,.slice A m c] 66).a (w+1) [S,s2,F,E,.slice B m' c'] 66);have ab:=hs.len;have ac:=X.len;have ai:=hs.small;have HF:=Hd F1;refine op1 F1 ?_;intros;clear F1;by_cases e1:b=S;rotate_left;·have t:=Hd (show fE (.mk b s1 j o f) (.mk S s2 F E g)=false by rw[fE];simp[e1]);exact Bg
 subst e1;by_cases O:s1=s2;rotate_left;·have t:=Hd (show fE (.mk b s1 j o f) (.mk b s2 F E g)=false by rw[fE];simp[O]);have ne:=str_eq O;clear hs X;refine ent func153 ntmps153 ?_;gi_wp2;go_ret;exact⟨by rw[t.out];first|rfl|simp,HF.out.bl⟩
 subst O;by_cases e3:j=F;rotate_left;·have t:=Hd (show fE (.mk b s1 j o f) (.mk b s1 F E g)=false by rw[fE];simp[e3]);exact Bg
 subst e3;by_cases e4:o=E;rotate_left;·have t:=Hd (show fE (.mk b s1 j o f) (.mk b s1 j E g)=false by rw[fE];simp[e4]);exact Bg
 subst e4;by_cases e5:m=m';rotate_left;·have t:=Hd (show fE (.mk b s1 j o f) (.mk b s1 j o g)=false by rw[fE];simp[yX (show f.length≠g.length by omega)]);exact Bg
 subst e5;have Z:=Hd (show fE (.mk b s1 j o f) (.mk b s1 j o g)=fQ f g by rw[fE];simp);have IH:Hid (∀z,z∈f->ahQ z):=ih;have H:=Hd2 hs X;have HL:=Hd2 ab ac;have Un:=Hd (show fQ (f.drop 0) (g.drop 0)=fQ f g by simp);clear hs X ab ac ih;refine ent func153 ntmps153 ?_;gi_wp2;gi_loopw[5] (fun i wr=>∃k:Nat,k<=m/\i=k/\Hid (fQ (f.drop k) (g.drop k)=fQ f g)/\Hid (Fr w wr [(w, [b,s1,j,o,.slice A m c]),(w+1, [b,s1,j,o,.slice B m c'])])) (fun i _=>m-(intOf i).toNat);case atStart=>exact⟨0,cf _,rfl,Un,HF⟩
 case round=>
  obtain⟨k,hk,rfl,J,D⟩:=hrel;have o1:=aW D.out;by_cases N:k<m
  ·obtain⟨x,I⟩:=dW f k (by rw[HL.a];exact N);obtain⟨y,Q⟩:=dW g k (by rw[HL.u];exact N);have ad:=Dc I Q;obtain⟨b1,aj,B1,m1,c1,rfl,⟨p0,p1,p2,p3,p4⟩,-,hs1⟩:=(H.a.go D.out.bl).qQ I;obtain⟨b2,al,B2,m2,c2,rfl,⟨q0,q1,q2,q3,q4⟩,-,hs2⟩:=(H.u.go D.out.bl).qQ Q;have a0:=ah p0;have a1:=ah p1;have a2:=ah p2;have a3:=ah p3;have a4:=ah p4;have b0:=ah q0;have ae:=ah q1;have af:=ah q2;have b3:=ah q3;have b4:=ah q4;have v1:=ah (D.out.aQ 0 4);have v2:=ah (D.out.aQ 1 4);obtain⟨q,P⟩:=aC (fE x y);have Y:=Hd (IH.out x (bh I) (y:=y) (hs1.go pE.drew) (hs2.go pE.drew));rw[P]at Y;have G:=Hd2 P ad;clear I Q ad hs1 hs2 P;cases q
   all_goals
    gi_wp2;refine ak [] [0,1,2,3,4,5,6,7,8,9,10,11] pk pk ?_;refine eH ?_;refine aH fun K hK=>aA rfl rfl wy fun K' aa=>?_;gi_wp2;refine Cl 153 Y.out ?_;rintro e w2 ⟨rfl,L⟩;have T:=Hd (D.out.drew.go L);refine aa _ _ ⟨?_,hK _ _ ?_⟩;clear aa K' hK K;·exact bq L _
    clear L;refine lit ?_;refine eH ?_;refine aK ?_;refine lit ?_;gi_wp2
   ·go_ret;exact⟨by rw[Z.out,<-J.out,G.u,G.a];rfl,T.out.bl⟩
   exact⟨⟨k+1,pj,by go_num,Hd (by rw[<-J.out,G.u,G.a,fm]),T⟩,by simp[intOf];omega⟩
  ·obtain rfl:k=m:=pj;have HE:=Hd (show fQ f g=true by rw[<-J.out,cB (by rw[HL.a];exact bj _),cB (by rw[HL.u];exact bj _),fQ]);clear hk N;gi_wp2;go_ret;exact⟨by rw[Z.out,HE.out];rfl,D.out.bl⟩
end
def vw(ts:List dA):Nat->Nat->Bool
 |0,_=>true
 |t+1,i=>match ts[i]? with
  |none=>false
  |some x=>x.2.any fun(k:bK)=>decide (k.1=5)&&vw ts t k.2.2.toNat
def KJ(ts:List dA):Nat->Nat->Nat
 |0,_=>0
 |t+1,i=>match ts[i]? with
  |none=>0
  |some x=>min ((x.2.map fun(k:bK)=>if k.1=5 then KJ ts t k.2.2.toNat else 1).sum) 33
theorem KL(ts:List dA):∀(t i:Nat),vw ts (t+1) i=true->vw ts t i=true
 |0,_,_=>rfl
 |t+1,i,h=>by
  unfold vw at h |-
  cases e:ts[i]? with
  |none=>rw[e]at h;cases h
  |some x=>rw[e]at h;simp only[iS,cS]at h |-;obtain⟨k,hk,h5,hc⟩:=h;exact⟨k,hk,h5,KL ts t _ hc⟩
theorem agB(ts:List dA){s t i:Nat}(h:s<=t)(hc:vw ts t i=true):vw ts s i=true:=by
 induction h with
 |refl=>exact hc
 | @step m _ ih=>exact ih (KL ts m i hc)
theorem KN(ts:List dA)(i:Nat):∀n,vw ts n i=false->∃m,m<n/\vw ts m i=true/\vw ts (m+1) i=false
 |0,h=>by cases h
 |n+1,h=>by
  cases e:vw ts n i with
  |true=>exact⟨n,e_ n,e,h⟩
  |false=>obtain⟨m,a,b⟩:=KN ts i n e;exact⟨m,pj,b⟩
theorem Ql{α:Type}{f g:α->Nat}(h:∀x,f x=min (g x) 33):∀l:List α,min ((l.map f).sum) 33=min ((l.map g).sum) 33
 | []=>rfl
 |x::l=>by have:=Ql h l;have:=h x;simp only[eV,mC];omega
theorem Vl(ts:List dA):∀(t i:Nat),KJ ts t i=min (RI ts t i).length 33
 |0,_=>rfl
 |t+1,i=>by
  unfold KJ RI
  cases e:ts[i]? with
  |none=>rfl
  |some x=>
   simp only;rw[List.length_flatMap];refine Ql (fun k=>?_) _;by_cases h5:k.1=5;·rw[if_pos h5,if_pos h5,Vl ts t]
   ·rw[if_neg h5,if_neg h5];simp
theorem Hf{r:aS}{rk:Nat->Nat}(hr:∀i t,r.ties[i]?=some t->∀k,k∈t.2->k.1=5->∃u:Nat,k.2.2=(u:Int)/\u<r.ties.length/\rk u<rk i):∀(f g i:Nat),i<r.ties.length->rk i<f->rk i<g->RI r.ties f i=RI r.ties g i
 |0,_,_,_,a,_=>by omega
 |_,0,_,_,_,a=>by omega
 |f+1,g+1,i,hi,a,b=>by
  unfold RI;have ht:r.ties[i]?=some r.ties[i]:=cd hi;rw[ht];apply vV;intro k hk;by_cases h5:k.1=5;·obtain⟨u,e,hu,hlt⟩:=hr i _ ht k hk h5;rw[if_pos h5,if_pos h5,e];exact Hf hr f g u hu pj pj
  rw[if_neg h5,if_neg h5]
theorem agC{r:aS}(hf:r.ties.length<=16)(hk:∀t,t∈r.ties->t.2.length<=32)(href:∀t,t∈r.ties->∀k,k∈t.2->k.1=5->∃u:Nat,k.2.2=(u:Int)/\u<r.ties.length)
 (hc:∀i,i<r.ties.length->vw r.ties r.ties.length i=false) (hm:∀i,i<r.ties.length->KJ r.ties r.ties.length i<=32):∃rk,T16 r rk/\∀i,i<r.ties.length->rk i<r.ties.length:=by
 have d:∀i,∃m,i<r.ties.length->m<r.ties.length/\vw r.ties m i=true/\vw r.ties (m+1) i=false:=fun i=>by
  by_cases f:i<r.ties.length;·obtain⟨m,h⟩:=KN r.ties i _ (hc i f);exact⟨m,fun _=>h⟩
  exact⟨0,fun h=>absurd h f⟩
 have x:∀i t,r.ties[i]?=some t->∀k,k∈t.2->k.1=5->∃u:Nat,k.2.2=(u:Int)/\u<r.ties.length/\(d u).choose<(d i).choose:=fun i t X k o j=>by
  have f:=(bu.1 X).1;obtain⟨u,e,y⟩:=href t (bh X) k o j;refine⟨u,e,y,?_⟩;obtain⟨-,a,-⟩:=(d u).choose_spec y;obtain⟨-,-,b⟩:=(d i).choose_spec f;rcases lP (d u).choose (d i).choose with g|g;·exact g
  have c:vw r.ties ((d u).choose+1) i=true:=by unfold vw;rw[X];simp only[iS,cS];exact⟨k,o,cx j,by rw[e];exact a⟩
  have:=agB r.ties (show(d i).choose+1<=(d u).choose+1 by omega) c;rw[b]at this;cases this
 refine⟨fun i=>(d i).choose,⟨hf,hk,x,fun i f=>?_,fun i f=>?_⟩,fun i f=>((d i).choose_spec f).1⟩;·have:=((d i).choose_spec f).1;show(d i).choose<16;omega
 ·have z:=((d i).choose_spec f).1;have D:=hm i f;rw[Vl]at D;have E:=Hf x 16 r.ties.length i f (by show(d i).choose<16;omega) z;show(RI r.ties 16 i).length<=32;rw[E];omega
theorem agD{r:aS}{rk:Nat->Nat}(hf:r.ties.length<=5)(hk:∀t,t∈r.ties->t.2.length<=4)(h:T16 r rk/\∀i,i<r.ties.length->rk i<r.ties.length):T15 r rk:=⟨hf,hk,h.1.ref,fun i hi=>bX (h.2 i hi) hf,h.1.len⟩
section
open Go.RowKit Go.Shelf
attribute [local go_sem] cX
theorem Ot{n t:ByteArray}{q c VD no2:Int}{a b:Bool}{e1 e2:aU}{M:List Nat}{m c1 m' c2:Nat}{w:World}(h1:Sl aU w M A m c1 e1.l)(h2:Sl aU w M' B m' c2 e2.l):
 Calls prog 151 #[.agg #[n,p,q,c,a,b,e1.kind,e1.name,e1.n,e1.d,.slice A m c1,t,VD],.agg #[n,p,q,c,a,b,e2.kind,e2.name,e2.n,e2.d,.slice B m' c2,t,no2]] w fun e w'=>e=.returned (.bool (decide (VD=no2)&&fE e1 e2))/\Below w w w':=by
 refine wid ?_;obtain⟨u,i⟩:=aC (decide (VD=no2)&&fE e1 e2);rw[i];have HZ:=Hd i;clear i;obtain⟨W1,x,F1⟩:=dR (((Fr.nil w).a w [n,p,q,c,a,b,e1.kind,e1.name,e1.n,e1.d,.slice A m c1,t,VD] 68).a (w+1) [n,p,q,c,a,b,e2.kind,e2.name,e2.n,e2.d,.slice B m' c2,t,no2] 68);have D:=aW F1;have HF:=Hd F1;have j:=Hd (He e1 (y:=e2) (h1.go F1.bl) (h2.go F1.bl));clear F1;by_cases hno:VD=no2
 ·subst hno;obtain⟨z,g⟩:=aC (fE e1 e2);rw[g]at j;have f:=Hd (show u=z by rw[<-HZ.out,g];simp);clear h1 h2 g;refine ent func151 ntmps151 ?_
  gi_wp2_with (first
   |(refine Cl 153 j.out ?_;rintro e E ⟨rfl,o⟩;have HB:=Hd (HF.out.bl.trans (o.mono HF.out.bl.size));clear o)
   |fail)
  go_ret;exact⟨by rw[f.out];rfl,HB.out⟩
 ·have f:=Hd (show u=false by rw[<-HZ.out,cE hno];rfl);clear h1 h2;refine ent func151 ntmps151 ?_;gi_wp2_with (first|(refine⟨bO,?_⟩))
  go_ret;exact⟨by rw[f.out];first|rfl|simp,HF.out.bl⟩
theorem Hl{r:aS}{M:List Nat}{d:Nat}{w:World}(h1:Sl dA w M A n c (r.ties.map (yV r)))(h2:Sl dA w M' B n d r.ties):
 CB 150 #[.slice A n c,.slice B n d] (.bool (r.ties.all fun t=>t.2.all (xU r))) w:=by
 refine wid ?_;have hn:=h2.len;have am:=h2.small;have H:=fB h1 h2 hn;have kq:=Qd;clear h1 h2 hn;refine ent func150 ntmps150 ?_;gi_wp2;gi_loopw[5] (fun i wr=>∃k:Nat,k<=n/\i=k/\Hid (((r.ties.drop k).all fun t=>t.2.all (xU r))=r.ties.all fun t=>t.2.all (xU r))/\Hid (Below w w wr)) (fun i _=>n-(intOf i).toNat);case atStart=>exact⟨0,cf _,rfl,Hd rfl,Hd pE⟩
 case round=>
  obtain⟨k,hk,rfl,N,f⟩:=hrel;obtain⟨V,rfl⟩:∃V,V=wr:=⟨_,rfl⟩;by_cases ae:k<n
  ·obtain⟨t,E⟩:=dW r.ties k (by rw[H.v];exact ae);have aa:(r.ties.map (yV r))[k]?=some (yV r t):=by rw[cM,E];rfl
   have S:=iC (P:=fun t:dA=>t.2.all (xU r)) E;obtain⟨b1,o1,B1,m1,c1,rfl,⟨K,o⟩,hk1⟩:=(H.a.go f.out).n_ aa;obtain⟨b2,o2,B2,J,c2,rfl,⟨X,x⟩,hk2⟩:=(H.b.go f.out).n_ E;have e0:(yV r t).1=t.1:=rfl;have e1:(yV r t).2=t.2.map (iW (dP r) (dQ r) (jF r)):=rfl;rw[e0]at K;rw[e1]at hk1;have l1:=hk1.len;have I:=hk2.len;rw[ck,I]at l1;subst l1;obtain⟨nm,af⟩:=aC t.1;obtain⟨G,ac⟩:=aC t.2;rw[af]at K X;rw[ac]at hk1 hk2 I S;have a0:=ah K;have a1:=ah o;have b0:=ah X;have aj:=ah x;have al:=hk2.small;have g:=h_ hk1 hk2 I S;have HP:=Hd2 o x;clear E aa S hk1 hk2 e0 e1 af ac I K o X x;gi_wp2;refine ak [] [0,1,2,3,4,5,6,7,8,9,10,11,12,13,14,15,16,17,18,19,20,21,22,23,24,25] pk pk ?_;refine eH ?_;refine aK ?_;refine lit ?_;gi_wp2;gi_loopw[6] (fun i wr=>∃j:Nat,j<=J/\i=j/\Hid ((G.drop j).all (xU r)=G.all (xU r))/\Hid (Below V V wr)) (fun i _=>J-(intOf i).toNat);case atStart=>exact⟨0,cf _,rfl,Hd rfl,Hd pE.drew⟩
   case round=>
    obtain⟨j,hj,rfl,O,m⟩:=hrel;have o:=(bq m.out []).cell po HP.a;have x:=(bq m.out []).cell po HP.u;by_cases ad:j<J
    ·obtain⟨y,F⟩:=dW G j (by rw[g.c];exact ad);have ai:(G.map (iW (dP r) (dQ r) (jF r)))[j]?=some (iW (dP r) (dQ r) (jF r) y):=by rw[cM,F];rfl
     have ag:=iC (P:=xU r) F;obtain⟨b3,o3,rfl,Y,Z,x2⟩:=(g.a.go m.out).xQ ai;obtain⟨b4,o4,rfl,y0,y1,y2⟩:=(g.b.go m.out).xQ F;obtain⟨z,T⟩:=aC (iW (dP r) (dQ r) (jF r) y);rw[T]at Y Z x2;have g1:=ah o;have g2:=ah x;have f0:=ah Y;have f1:=ah Z;have f2:=ah x2;have f3:=ah y0;have f4:=ah y1;have f5:=ah y2;obtain⟨e,Q⟩:=aC (decide (z=y));have kz:=fun w=>kq z y w;rw[Q]at kz;have D:=Hd2 ag (show xU r y=e by rw[xU,T];exact Q);have ab:=Hd (m.out.drew);clear F ai ag T Y Z x2 y0 y1 y2 Q kq;cases e
     all_goals
      gi_wp2;refine aP [] 17 pk pk ?_;refine ay 0 ?_;refine ay 1 ?_;refine ay 2 ?_;refine ay 3 ?_;refine ay 4 ?_;refine ay 5 ?_;refine ay 6 ?_;refine ay 7 ?_;refine ay 8 ?_;refine ay 9 ?_;refine ay 10 ?_;refine ay 11 ?_;refine ay 12 ?_;refine ay 13 ?_;refine ay 14 ?_;refine ay 15 ?_;refine ay 16 ?_;refine iq 0 ?_;refine et _ ?_;simp only[cu];gi_wp2
     ·go_ret;exact⟨by rw[<-N.out,g.w,<-O.out,D.a,D.u];simp,f.out.trans (ab.out.mono f.out.size)⟩
     exact⟨⟨j+1,pj,by go_num,Hd (by rw[<-O.out,D.a,D.u,fm]),ab⟩,by simp[intOf];omega⟩
    ·obtain rfl:j=J:=pj;have L:=Hd (show((r.ties.drop (k+1)).all fun t=>t.2.all (xU r))=r.ties.all fun t=>t.2.all (xU r) by
      have h:=O.out;rw[jr (by rw[g.c];exact bj _)]at h;have h2:=g.w;rw[N.out,<-h,fm]at h2;exact h2.symm)
     clear hj ad;gi_wp2;exact⟨⟨k+1,pj,by go_num,L,Hd (f.out.trans (m.out.mono f.out.size))⟩,by simp[intOf];omega⟩
  ·obtain rfl:k=n:=pj;have L:=Hd (show(r.ties.all fun t=>t.2.all (xU r))=true by rw[<-N.out,jr (by rw[H.v];exact bj _)]);clear hk ae;gi_wp2;go_ret;exact⟨by rw[L.out];rfl,f.out⟩
end
