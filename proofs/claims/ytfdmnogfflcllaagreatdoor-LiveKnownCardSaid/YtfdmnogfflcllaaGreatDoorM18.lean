/- Lemmas. -/
import Derived.Maps.OwnIn
import Derived.Maps.Views
import Derived.Test.YtfdmnogfflcllaaGreatDoorM04
import Derived.Test.YtfdmnogfflcllaaGreatDoorM17
set_option linter.unusedVariables false
set_option linter.unusedSimpArgs false
set_option maxRecDepth 100000
set_option maxHeartbeats 20000000
namespace Go.Proofs.YtfdmnogfflcllaaGreatDoor
open Go.Proofs.Tryz Go.RowKit Go.Shelf
theorem AA{p:Prop}(h:p:=by have ac:k=n:=oE;clear hk ad;subst ac;have V:=Hd2 (show(l.all fun x=>bZ x.1)=f by rw[<-I,bL oE]) J;gi_wp2;go_ret2;exact⟨by rw[V.a,V.u];first|rfl|simp,r.a,r.u⟩):p:=h
variable {s:ByteArray}{w w' w'':World}{b k n c m d:Nat}{nm:List ByteArray}{M:List Nat}{A B:Option Addr}{l:List bT}{v u:Value}
def jT(s:ByteArray):Lit:=.string s.data.toList
theorem xu{t:ByteArray}:jT s=jT t↔s.data.toList=t.data.toList:=⟨fun h=>by injection h,fun h=>by unfold jT;rw[h]⟩
theorem sK:Go.Maps.Keyed prog 9:=Go.Maps.string_keyed underlying9
theorem xw(w:World):(zeroValue 3).run prog w=.ok (.int .i64 0) w:=oF
def rV(nm:List ByteArray):Nat->DataW Unit
 |0=>.map []
 |k+1=>(rV nm k).put (jT (nm.getD k ByteArray.empty)) (.lit (.int .i64 (k:Int)))
def gW(nm:List ByteArray)(s:ByteArray):Nat->Option Nat
 |0=>none
 |k+1=>if(nm.getD k ByteArray.empty).data.toList=s.data.toList then some k else gW nm s k
theorem NP(nm:List ByteArray):∀k,Go.Maps.IsMap (rV nm k)
 |0=>Go.Maps.isMap_empty
 |k+1=>(NP nm k).put _ _
theorem yS(nm:List ByteArray)(s:ByteArray):∀k,Go.Maps.has (rV nm k) (jT s)=(gW nm s k).isSome
 |0=>rfl
 |k+1=>by
  unfold rV gW;by_cases h:(nm.getD k ByteArray.empty).data.toList=s.data.toList;·rw[if_pos h,xu.2 h];exact Go.Maps.has_put_same (k:=jT s) (NP nm k) trivial _
  rw[if_neg h,Go.Maps.has_put_other (fun e=>h (xu.1 e.symm))];exact yS nm s k
theorem Zz(nm:List ByteArray)(s:ByteArray):∀k,(rV nm k).atKey (jT s) (.lit (.int .i64 0))=.lit (.int .i64 (((gW nm s k).getD 0:Nat):Int))
 |0=>rfl
 |k+1=>by
  unfold rV gW;by_cases h:(nm.getD k ByteArray.empty).data.toList=s.data.toList;·rw[if_pos h,xu.2 h];exact Go.Maps.atKey_put_same (k:=jT s) (NP nm k) trivial _ _
  rw[if_neg h,mE (fun e=>h (xu.1 e.symm))];exact Zz nm s k
def dB(w:World)(b:Nat)(nm:List ByteArray)(k:Nat):Prop:=w.ownsMap prog 9 (Go.plainElem prog 3) b k (rV nm k)
theorem dB.block(h:dB w b nm k)(hb:w'.heap[b]?=w.heap[b]?):dB w' b nm k:=by obtain⟨e,a,f,g⟩:=h;exact⟨e,a,hb.trans f,g⟩
theorem dB.lt(h:dB w b nm k):b<w.heap.size:=by obtain⟨f,e,a,-⟩:=h;exact(cS.1 a).1
theorem dB.go(h:dB w b nm k)(hb:Below w w w'):dB w' b nm k:=h.block (hb.block b h.lt)
theorem dB.made(w:World)(nm:List ByteArray):dB (w.alloc (.map #[] 0)) w.heap.size nm 0:=World.ownsMap_made _ _ _ _
theorem KB.go(h:KB b w w')(hb:Below w' w' w'')(hl:b<=w'.heap.size):KB b w w'':=h.trans ⟨a_ hb _,hb.mono hl⟩
theorem KB.grown(h:KB b w w')(hg:w'.grownBy w'' (some b))(hl:b<w'.heap.size):KB b w w'':=h.trans ⟨⟨hg.size,fun k hk hm=>hg.block k hk (fun e=>hm (by cases e;simp))⟩,⟨hg.os,hg.tape,hg.output,hg.size,fun k hk=>hg.block k oE (fun e=>by cases e;omega)⟩⟩
def dX(nm:List ByteArray):Nat->Bool
 |0=>true
 |k+1=>dX nm k&&(gW nm (nm.getD k ByteArray.empty) k).isNone
theorem Cj(s:ByteArray)(h:s.size<=maxLen):keyOf prog 9 (.string s)=some (jT s):=Go.WideMaps.keyOf_string_mk underlying9 h
theorem Sl.IU{x:bT}(h:Sl bT w M A n c l)(hk:l[k]?=some x):∃b o,A=some ⟨b,o,none⟩/\(w.cell? ⟨b,o+k*7,none⟩=some (.string x.1)/\w.cell? ⟨b,o+k*7+1,none⟩=some (.int .i64 x.2.1)/\w.cell? ⟨b,o+k*7+2,none⟩=some (.int .i64 x.2.2.1)/\w.cell? ⟨b,o+k*7+3,none⟩=some (.int .i64 x.2.2.2.1)/\w.cell? ⟨b,o+k*7+4,none⟩=some (.int .i64 x.2.2.2.2.1)/\w.cell? ⟨b,o+k*7+5,none⟩=some (.int .i64 x.2.2.2.2.2.1)/\w.cell? ⟨b,o+k*7+6,none⟩=some (.bool x.2.2.2.2.2.2)):=by obtain⟨b,o,f,rfl,e,a⟩:=h.get hk;obtain⟨rfl,-⟩:=lT e;exact⟨b,o,rfl,a.2 0 _ rfl,a.2 1 _ rfl,a.2 2 _ rfl,a.2 3 _ rfl,a.2 4 _ rfl,a.2 5 _ rfl,a.2 6 _ rfl⟩
theorem Sl.NQ{l:List bW}{x:bW}(h:Sl bW w M A n c l)(hk:l[k]?=some x):∃b o,A=some ⟨b,o,none⟩/\(w.cell? ⟨b,o+k*3,none⟩=some (.string x.1)/\w.cell? ⟨b,o+k*3+1,none⟩=some (.int .i64 x.2.1)/\w.cell? ⟨b,o+k*3+2,none⟩=some (.int .i64 x.2.2)):=by obtain⟨b,o,f,rfl,e,a⟩:=h.get hk;obtain⟨rfl,-⟩:=aaJ e;exact⟨b,o,rfl,a.2 0 _ rfl,a.2 1 _ rfl,a.2 2 _ rfl⟩
theorem getD_map{α:Type}(f:α->ByteArray){l:List α}{x:α}(h:l[k]?=some x):(l.map f).getD k ByteArray.empty=f x:=by rw[cx,cP,h];rfl
theorem dZ{α:Type}(P:α->Bool){l:List α}{x:α}(h:l[k]?=some x):(l.take (k+1)).all P=((l.take k).all P&&P x):=by rw[eo,h,List.all_append];simp
theorem CG(ht:Tab w)(hm:dB w b nm k)(h:KB b w w'):Tab w':=by
 unfold Tab Lib.TabIs World.var? at*
 cases e:prog.globalNamed "strings.asciiSpace" with
 |none=>simp[e]at ht
 |some g=>
  simp only[e,Option.bind_some]at ht |-;obtain⟨o,j,f,-⟩:=hm;have O:g<w.heap.size:=by
   by_cases O:g<w.heap.size;·exact O
   rw[Array.getElem?_eq_none oE]at ht;cases ht
  have i:g∉ [b]:=by intro a;rw[bE]at a;subst a;rw[f]at ht;cases ht
  rw[h.k.block g O i];exact ht
theorem Gi(x:bT)(w:World):CB 235 #[.agg #[.string x.1,.int .i64 x.2.1,.int .i64 x.2.2.1,.int .i64 x.2.2.2.1,.int .i64 x.2.2.2.2.1,.int .i64 x.2.2.2.2.2.1,.bool x.2.2.2.2.2.2]] (.string x.1) w:=by refine wid ?_;obtain⟨W1,y,F1⟩:=dR ((Fr.nil w).a w [.string x.1,.int .i64 x.2.1,.int .i64 x.2.2.1,.int .i64 x.2.2.2.1,.int .i64 x.2.2.2.2.1,.int .i64 x.2.2.2.2.2.1,.bool x.2.2.2.2.2.2] 59);refine op1 F1 ?_;intros;have F:=Hd F1;clear F1;refine ent func235 rfl ntmps235 ?_;gi_wp2;go_ret;exact⟨rfl,F.out.bl⟩
theorem Gj(hx:Sl bT w M A n c l)(hn:n<=1000)(hnm:l.map (fun x=>x.1)=nm)(hsz:∀x,x∈l->x.1.size<=maxLen)(ht:Tab w)(hb:dB w b nm 0)(hM:b∈M):
 Calls prog 234 #[.map (some b),.slice A n c,.func (.func 235) #[] #[]] w fun e w'=>e=.returned (.tuple #[.bool (l.all fun x=>bZ x.1),.bool (dX nm n)])/\KB b w w'/\dB w' b nm n:=by
 refine wid ?_;have af:=hx.len;have H:=Hd hx;have W:=Hd2 ht hb;have HL:=fB hnm hsz hM;have ab:=Hd (show KB b w w/\dB w b nm 0 from⟨KB.refl _ _,hb⟩);have eg:=eK (P:=prog) func235 oF rfl;clear hx ht hb hnm hsz hM;refine ent func234 rfl ntmps234 ?_;gi_wp2;gi_loopw[6,7,15] (fun v6 v7 i wr=>∃k:Nat,k<=n/\v6=.bool ((l.take k).all fun x=>bZ x.1)/\v7=.bool (dX nm k)/\i=.int .i64 k/\Hid (KB b w wr/\dB wr b nm k)) (fun _ _ i _=>n-(intOf i).toNat);case atStart=>exact⟨0,bO _,oO,rfl,rfl,ab⟩
 case round=>
  obtain⟨k,hk,rfl,rfl,rfl,r⟩:=hrel;obtain⟨f,I⟩:=aC ((l.take k).all fun x=>bZ x.1);obtain⟨o1,J⟩:=aC (dX nm k);rw[I,J];by_cases ad:k<n
  ·obtain⟨x,z⟩:=dW l k oE;have Z:=aR z;have O:nm.getD k ByteArray.empty=x.1:=by rw[<-HL.a];exact getD_map _ z
   have G:=dZ (fun x:bT=>bZ x.1) z;have K:dX nm (k+1)=(dX nm k&&(gW nm x.1 k).isNone):=by rw[<-O];rfl
   rw[I]at G;rw[J]at K;obtain⟨bb,o,rfl,h0,h1,h2,h3,h4,h5,h6⟩:=(H.out.keep (r.a.k.mono (fun q hq=>by rw[bE]at hq;subst hq;exact HL.v))).IU z;obtain⟨Y,ae,N,T⟩:=fP (w:=wr) ((Fr.nil wr).a wr [.string x.1,.int .i64 x.2.1,.int .i64 x.2.2.1,.int .i64 x.2.2.2.1,.int .i64 x.2.2.2.2.1,.int .i64 x.2.2.2.2.2.1,.bool x.2.2.2.2.2.2] 59);refine op1 T ?_;intros;obtain⟨fx,R⟩:=aC (bZ x.1);obtain⟨hs,L⟩:=aC (Go.Maps.has (rV nm k) (jT x.1));have aa:(gW nm x.1 k).isNone= !hs:=by rw[<-L,yS];cases gW nm x.1 k<;>rfl
   have j:=Hd (show KB b w Y/\dB Y b nm k from⟨r.a.go N (cX r.u.lt),r.u.go N⟩);have U:=Hd O;rw[R]at G;rw[aa]at K;have D:=Hd (Cj x.1 (HL.b x Z));have F:=Hd2 (show(Lit.int .i64 (k:Int)).wf=true from lz oE) (show k<maxLen by unfold maxLen;omega);have X:=Hd L;have XR:=Hd R;have E:=Hd2 G K;clear I J z Z O G K T N R L aa;cases f
   ·cases o1
    all_goals
     gi_wp2_with (first
      |(gi_at_mapUpdate;refine Go.wpListIn_mapUpdate_own _ rfl _ _ _ 262 rfl 9 3 sK underlying262 _ b k (rV nm k) rfl h.u F.u _ _ (jT x.1) rfl rfl D.out _ [] (jj underlying3 F.a) ?_;intro C y t;have HF:=Hd (show KB b w C/\dB C b nm (k+1)from⟨h.a.grown t h.u.lt,by
         unfold dB rV;rw[U.out];exact y⟩)
        clear y t)
      |(gi_at_lookup;refine Go.wpListIn_lookup_own_ok_int _ rfl _ _ 262 rfl 9 3 .i64 sK underlying262 underlying3 (xw _) b k (rV nm k) rfl g.u _ (jT x.1) rfl D.out ?_;intro c Q S;rw[X.out];have h:=Hd g.out;clear Q S)
      |(refine Cl 235 (Gi x _) ?_;rintro e w3 ⟨rfl,p⟩;have g:=Hd2 (j.a.go p (cX j.u.lt)) (j.u.go p);clear p)
      |(refine⟨bq,?_⟩))
     exact⟨⟨k+1,oE,by rw[E.a];first|rfl|simp,by rw[E.u];first|rfl|simp,by go_num,HF⟩,by simp[intOf];omega⟩
   cases o1
   all_goals
    gi_wp2_with (first
     |(gi_at_mapUpdate;refine Go.wpListIn_mapUpdate_own _ rfl _ _ _ 262 rfl 9 3 sK underlying262 _ b k (rV nm k) rfl h.u F.u _ _ (jT x.1) rfl rfl D.out _ [] (jj underlying3 F.a) ?_;intro C y t;have HF:=Hd (show KB b w C/\dB C b nm (k+1)from⟨h.a.grown t h.u.lt,by
        unfold dB rV;rw[U.out];exact y⟩)
       clear y t)
     |(refine Cl 243 (qm x.1 _ (CG W.a W.u g.a)) ?_;rintro e w4 ⟨rfl,hb4⟩;rw[XR.out];have h:=Hd2 (g.a.go hb4 (cX g.u.lt)) (g.u.go hb4);clear hb4)
     |(gi_at_lookup;refine Go.wpListIn_lookup_own_ok_int _ rfl _ _ 262 rfl 9 3 .i64 sK underlying262 underlying3 (xw _) b k (rV nm k) rfl g.u _ (jT x.1) rfl D.out ?_;intro c Q S;rw[X.out]
       skip
       clear Q S)
     |(refine Cl 235 (Gi x _) ?_;rintro e w3 ⟨rfl,p⟩;have g:=Hd2 (j.a.go p (cX j.u.lt)) (j.u.go p);clear p)
     |fail)
    exact⟨⟨k+1,oE,by rw[E.a];first|rfl|simp,by rw[E.u];first|rfl|simp,by go_num,HF⟩,by simp[intOf];omega⟩
  ·exact AA
theorem Gl(x:bW)(w:World):CB 238 #[.agg #[.string x.1,.int .i64 x.2.1,.int .i64 x.2.2]] (.string x.1) w:=by refine wid ?_;obtain⟨W1,y,F1⟩:=dR ((Fr.nil w).a w [.string x.1,.int .i64 x.2.1,.int .i64 x.2.2] 156);refine op1 F1 ?_;intros;have F:=Hd F1;clear F1;refine ent func238 rfl ntmps238 ?_;gi_wp2;go_ret;exact⟨rfl,F.out.bl⟩
theorem Gm{l:List bW}(hx:Sl bW w M A n c l)(hn:n<=1000)(hnm:l.map (fun x=>x.1)=nm)(hsz:∀x,x∈l->x.1.size<=maxLen)(ht:Tab w)(hb:dB w b nm 0)(hM:b∈M):
 Calls prog 236 #[.map (some b),.slice A n c,.func (.func 238) #[] #[]] w fun e w'=>e=.returned (.tuple #[.bool (l.all fun x=>bZ x.1),.bool (dX nm n)])/\KB b w w'/\dB w' b nm n:=by
 refine wid ?_;have af:=hx.len;have H:=Hd hx;have W:=Hd2 ht hb;have HL:=fB hnm hsz hM;have ab:=Hd (show KB b w w/\dB w b nm 0 from⟨KB.refl _ _,hb⟩);have eg:=eK (P:=prog) func238 oF rfl;clear hx ht hb hnm hsz hM;refine ent func236 rfl ntmps236 ?_;gi_wp2;gi_loopw[6,7,15] (fun v6 v7 i wr=>∃k:Nat,k<=n/\v6=.bool ((l.take k).all fun x=>bZ x.1)/\v7=.bool (dX nm k)/\i=.int .i64 k/\Hid (KB b w wr/\dB wr b nm k)) (fun _ _ i _=>n-(intOf i).toNat);case atStart=>exact⟨0,bO _,oO,rfl,rfl,ab⟩
 case round=>
  obtain⟨k,hk,rfl,rfl,rfl,r⟩:=hrel;obtain⟨f,I⟩:=aC ((l.take k).all fun x=>bZ x.1);obtain⟨o1,J⟩:=aC (dX nm k);rw[I,J];by_cases ad:k<n
  ·obtain⟨x,z⟩:=dW l k oE;have Z:=aR z;have O:nm.getD k ByteArray.empty=x.1:=by rw[<-HL.a];exact getD_map _ z
   have G:=dZ (fun x:bW=>bZ x.1) z;have K:dX nm (k+1)=(dX nm k&&(gW nm x.1 k).isNone):=by rw[<-O];rfl
   rw[I]at G;rw[J]at K;obtain⟨bb,o,rfl,h0,h1,h2⟩:=(H.out.keep (r.a.k.mono (fun q hq=>by rw[bE]at hq;subst hq;exact HL.v))).NQ z;obtain⟨Y,ae,N,T⟩:=fP (w:=wr) ((Fr.nil wr).a wr [.string x.1,.int .i64 x.2.1,.int .i64 x.2.2] 156);refine op1 T ?_;intros;obtain⟨fx,R⟩:=aC (bZ x.1);obtain⟨hs,L⟩:=aC (Go.Maps.has (rV nm k) (jT x.1));have aa:(gW nm x.1 k).isNone= !hs:=by rw[<-L,yS];cases gW nm x.1 k<;>rfl
   have j:=Hd (show KB b w Y/\dB Y b nm k from⟨r.a.go N (cX r.u.lt),r.u.go N⟩);have U:=Hd O;rw[R]at G;rw[aa]at K;have D:=Hd (Cj x.1 (HL.b x Z));have F:=Hd2 (show(Lit.int .i64 (k:Int)).wf=true from lz oE) (show k<maxLen by unfold maxLen;omega);have X:=Hd L;have XR:=Hd R;have E:=Hd2 G K;clear I J z Z O G K T N R L aa;cases f
   ·cases o1
    all_goals
     gi_wp2_with (first
      |(gi_at_mapUpdate;refine Go.wpListIn_mapUpdate_own _ rfl _ _ _ 262 rfl 9 3 sK underlying262 _ b k (rV nm k) rfl h.u F.u _ _ (jT x.1) rfl rfl D.out _ [] (jj underlying3 F.a) ?_;intro C y t;have HF:=Hd (show KB b w C/\dB C b nm (k+1)from⟨h.a.grown t h.u.lt,by
         unfold dB rV;rw[U.out];exact y⟩)
        clear y t)
      |(gi_at_lookup;refine Go.wpListIn_lookup_own_ok_int _ rfl _ _ 262 rfl 9 3 .i64 sK underlying262 underlying3 (xw _) b k (rV nm k) rfl g.u _ (jT x.1) rfl D.out ?_;intro c Q S;rw[X.out];have h:=Hd g.out;clear Q S)
      |(refine Cl 238 (Gl x _) ?_;rintro e w3 ⟨rfl,p⟩;have g:=Hd2 (j.a.go p (cX j.u.lt)) (j.u.go p);clear p)
      |(refine⟨bq,?_⟩))
     exact⟨⟨k+1,oE,by rw[E.a];first|rfl|simp,by rw[E.u];first|rfl|simp,by go_num,HF⟩,by simp[intOf];omega⟩
   cases o1
   all_goals
    gi_wp2_with (first
     |(gi_at_mapUpdate;refine Go.wpListIn_mapUpdate_own _ rfl _ _ _ 262 rfl 9 3 sK underlying262 _ b k (rV nm k) rfl h.u F.u _ _ (jT x.1) rfl rfl D.out _ [] (jj underlying3 F.a) ?_;intro C y t;have HF:=Hd (show KB b w C/\dB C b nm (k+1)from⟨h.a.grown t h.u.lt,by
        unfold dB rV;rw[U.out];exact y⟩)
       clear y t)
     |(refine Cl 243 (qm x.1 _ (CG W.a W.u g.a)) ?_;rintro e w4 ⟨rfl,hb4⟩;rw[XR.out];have h:=Hd2 (g.a.go hb4 (cX g.u.lt)) (g.u.go hb4);clear hb4)
     |(gi_at_lookup;refine Go.wpListIn_lookup_own_ok_int _ rfl _ _ 262 rfl 9 3 .i64 sK underlying262 underlying3 (xw _) b k (rV nm k) rfl g.u _ (jT x.1) rfl D.out ?_;intro c Q S;rw[X.out]
       skip
       clear Q S)
     |(refine Cl 238 (Gl x _) ?_;rintro e w3 ⟨rfl,p⟩;have g:=Hd2 (j.a.go p (cX j.u.lt)) (j.u.go p);clear p)
     |fail)
    exact⟨⟨k+1,oE,by rw[E.a];first|rfl|simp,by rw[E.u];first|rfl|simp,by go_num,HF⟩,by simp[intOf];omega⟩
  ·exact AA
theorem Gn(x:dA)(w:World):CB 240 #[.agg #[.string x.1,.slice B m d]] (.string x.1) w:=by refine wid ?_;obtain⟨W1,y,F1⟩:=dR ((Fr.nil w).a w [.string x.1,.slice B m d] 142);refine op1 F1 ?_;intros;have F:=Hd F1;clear F1;refine ent func240 rfl ntmps240 ?_;gi_wp2;go_ret;exact⟨rfl,F.out.bl⟩
theorem Gp{l:List dA}(hx:Sl dA w M A n c l)(hn:n<=1000)(hnm:l.map (fun x=>x.1)=nm)(hsz:∀x,x∈l->x.1.size<=maxLen)(ht:Tab w)(hb:dB w b nm 0)(hM:b∈M):
 Calls prog 239 #[.map (some b),.slice A n c,.func (.func 240) #[] #[]] w fun e w'=>e=.returned (.tuple #[.bool (l.all fun x=>bZ x.1),.bool (dX nm n)])/\KB b w w'/\dB w' b nm n:=by
 refine wid ?_;have af:=hx.len;have H:=Hd hx;have W:=Hd2 ht hb;have HL:=fB hnm hsz hM;have ab:=Hd (show KB b w w/\dB w b nm 0 from⟨KB.refl _ _,hb⟩);have eg:=eK (P:=prog) func240 oF rfl;clear hx ht hb hnm hsz hM;refine ent func239 rfl ntmps239 ?_;gi_wp2;gi_loopw[6,7,15] (fun v6 v7 i wr=>∃k:Nat,k<=n/\v6=.bool ((l.take k).all fun x=>bZ x.1)/\v7=.bool (dX nm k)/\i=.int .i64 k/\Hid (KB b w wr/\dB wr b nm k)) (fun _ _ i _=>n-(intOf i).toNat);case atStart=>exact⟨0,bO _,oO,rfl,rfl,ab⟩
 case round=>
  obtain⟨k,hk,rfl,rfl,rfl,r⟩:=hrel;obtain⟨f,I⟩:=aC ((l.take k).all fun x=>bZ x.1);obtain⟨o1,J⟩:=aC (dX nm k);rw[I,J];by_cases ad:k<n
  ·obtain⟨x,z⟩:=dW l k oE;have Z:=aR z;have O:nm.getD k ByteArray.empty=x.1:=by rw[<-HL.a];exact getD_map _ z
   have G:=dZ (fun x:dA=>bZ x.1) z;have K:dX nm (k+1)=(dX nm k&&(gW nm x.1 k).isNone):=by rw[<-O];rfl
   rw[I]at G;rw[J]at K;obtain⟨bb,o,B,m,d,rfl,⟨h0,h1⟩,-⟩:=(H.out.keep (r.a.k.mono (fun q hq=>by rw[bE]at hq;subst hq;exact HL.v))).n_ z;obtain⟨Y,ae,N,T⟩:=fP (w:=wr) ((Fr.nil wr).a wr [.string x.1,.slice B m d] 142);refine op1 T ?_;intros;obtain⟨fx,R⟩:=aC (bZ x.1);obtain⟨hs,L⟩:=aC (Go.Maps.has (rV nm k) (jT x.1));have aa:(gW nm x.1 k).isNone= !hs:=by rw[<-L,yS];cases gW nm x.1 k<;>rfl
   have j:=Hd (show KB b w Y/\dB Y b nm k from⟨r.a.go N (cX r.u.lt),r.u.go N⟩);have U:=Hd O;rw[R]at G;rw[aa]at K;have D:=Hd (Cj x.1 (HL.b x Z));have F:=Hd2 (show(Lit.int .i64 (k:Int)).wf=true from lz oE) (show k<maxLen by unfold maxLen;omega);have X:=Hd L;have XR:=Hd R;have E:=Hd2 G K;clear I J z Z O G K T N R L aa;cases f
   ·cases o1
    all_goals
     gi_wp2_with (first
      |(gi_at_mapUpdate;refine Go.wpListIn_mapUpdate_own _ rfl _ _ _ 262 rfl 9 3 sK underlying262 _ b k (rV nm k) rfl h.u F.u _ _ (jT x.1) rfl rfl D.out _ [] (jj underlying3 F.a) ?_;intro C y t;have HF:=Hd (show KB b w C/\dB C b nm (k+1)from⟨h.a.grown t h.u.lt,by
         unfold dB rV;rw[U.out];exact y⟩)
        clear y t)
      |(gi_at_lookup;refine Go.wpListIn_lookup_own_ok_int _ rfl _ _ 262 rfl 9 3 .i64 sK underlying262 underlying3 (xw _) b k (rV nm k) rfl g.u _ (jT x.1) rfl D.out ?_;intro c Q S;rw[X.out];have h:=Hd g.out;clear Q S)
      |(refine Cl 240 (Gn x _) ?_;rintro e w3 ⟨rfl,p⟩;have g:=Hd2 (j.a.go p (cX j.u.lt)) (j.u.go p);clear p)
      |(refine⟨bq,?_⟩))
     exact⟨⟨k+1,oE,by rw[E.a];first|rfl|simp,by rw[E.u];first|rfl|simp,by go_num,HF⟩,by simp[intOf];omega⟩
   cases o1
   all_goals
    gi_wp2_with (first
     |(gi_at_mapUpdate;refine Go.wpListIn_mapUpdate_own _ rfl _ _ _ 262 rfl 9 3 sK underlying262 _ b k (rV nm k) rfl h.u F.u _ _ (jT x.1) rfl rfl D.out _ [] (jj underlying3 F.a) ?_;intro C y t;have HF:=Hd (show KB b w C/\dB C b nm (k+1)from⟨h.a.grown t h.u.lt,by
        unfold dB rV;rw[U.out];exact y⟩)
       clear y t)
     |(refine Cl 243 (qm x.1 _ (CG W.a W.u g.a)) ?_;rintro e w4 ⟨rfl,hb4⟩;rw[XR.out];have h:=Hd2 (g.a.go hb4 (cX g.u.lt)) (g.u.go hb4);clear hb4)
     |(gi_at_lookup;refine Go.wpListIn_lookup_own_ok_int _ rfl _ _ 262 rfl 9 3 .i64 sK underlying262 underlying3 (xw _) b k (rV nm k) rfl g.u _ (jT x.1) rfl D.out ?_;intro c Q S;rw[X.out]
       skip
       clear Q S)
     |(refine Cl 240 (Gn x _) ?_;rintro e w3 ⟨rfl,p⟩;have g:=Hd2 (j.a.go p (cX j.u.lt)) (j.u.go p);clear p)
     |fail)
    exact⟨⟨k+1,oE,by rw[E.a];first|rfl|simp,by rw[E.u];first|rfl|simp,by go_num,HF⟩,by simp[intOf];omega⟩
  ·exact AA
theorem Gq(x:aJ)(w:World):CB 242 #[.agg #[.string x.1,.int .i64 x.2.1,.int .i64 x.2.2.1,.int .i64 x.2.2.2.1,.bool x.2.2.2.2.1,.bool x.2.2.2.2.2.1,.int .i64 (au x).kind,.string (au x).name,.int .i64 (au x).n,.int .i64 (au x).d,.slice B m d,.string x.2.2.2.2.2.2.2.1,.int .i64 x.2.2.2.2.2.2.2.2]] (.string x.1) w:=by refine wid ?_;obtain⟨W1,y,F1⟩:=dR ((Fr.nil w).a w [.string x.1,.int .i64 x.2.1,.int .i64 x.2.2.1,.int .i64 x.2.2.2.1,.bool x.2.2.2.2.1,.bool x.2.2.2.2.2.1,.int .i64 (au x).kind,.string (au x).name,.int .i64 (au x).n,.int .i64 (au x).d,.slice B m d,.string x.2.2.2.2.2.2.2.1,.int .i64 x.2.2.2.2.2.2.2.2] 68);refine op1 F1 ?_;intros;have F:=Hd F1;clear F1;refine ent func242 rfl ntmps242 ?_;gi_wp2;go_ret;exact⟨rfl,F.out.bl⟩
theorem Gs{l:List aJ}(hx:Sl aJ w M A n c l)(hn:n<=1000)(hnm:l.map (fun x=>x.1)=nm)(hsz:∀x,x∈l->x.1.size<=maxLen)(ht:Tab w)(hb:dB w b nm 0)(hM:b∈M):
 Calls prog 241 #[.map (some b),.slice A n c,.func (.func 242) #[] #[]] w fun e w'=>e=.returned (.tuple #[.bool (l.all fun x=>bZ x.1),.bool (dX nm n)])/\KB b w w'/\dB w' b nm n:=by
 refine wid ?_;have af:=hx.len;have H:=Hd hx;have W:=Hd2 ht hb;have HL:=fB hnm hsz hM;have ab:=Hd (show KB b w w/\dB w b nm 0 from⟨KB.refl _ _,hb⟩);have eg:=eK (P:=prog) func242 oF rfl;clear hx ht hb hnm hsz hM;refine ent func241 rfl ntmps241 ?_;gi_wp2;gi_loopw[6,7,15] (fun v6 v7 i wr=>∃k:Nat,k<=n/\v6=.bool ((l.take k).all fun x=>bZ x.1)/\v7=.bool (dX nm k)/\i=.int .i64 k/\Hid (KB b w wr/\dB wr b nm k)) (fun _ _ i _=>n-(intOf i).toNat);case atStart=>exact⟨0,bO _,oO,rfl,rfl,ab⟩
 case round=>
  obtain⟨k,hk,rfl,rfl,rfl,r⟩:=hrel;obtain⟨f,I⟩:=aC ((l.take k).all fun x=>bZ x.1);obtain⟨o1,J⟩:=aC (dX nm k);rw[I,J];by_cases ad:k<n
  ·obtain⟨x,z⟩:=dW l k oE;have Z:=aR z;have O:nm.getD k ByteArray.empty=x.1:=by rw[<-HL.a];exact getD_map _ z
   have G:=dZ (fun x:aJ=>bZ x.1) z;have K:dX nm (k+1)=(dX nm k&&(gW nm x.1 k).isNone):=by rw[<-O];rfl
   rw[I]at G;rw[J]at K;obtain⟨bb,o,B,m,d,rfl,⟨h0,h1,h2,h3,h4,h5⟩,⟨h6,h7,h8,h9,h10⟩,⟨h11,h12⟩,-,-,-⟩:=(H.out.keep (r.a.k.mono (fun q hq=>by rw[bE]at hq;subst hq;exact HL.v))).iw z;obtain⟨Y,ae,N,T⟩:=fP (w:=wr) ((Fr.nil wr).a wr [.string x.1,.int .i64 x.2.1,.int .i64 x.2.2.1,.int .i64 x.2.2.2.1,.bool x.2.2.2.2.1,.bool x.2.2.2.2.2.1,.int .i64 (au x).kind,.string (au x).name,.int .i64 (au x).n,.int .i64 (au x).d,.slice B m d,.string x.2.2.2.2.2.2.2.1,.int .i64 x.2.2.2.2.2.2.2.2] 68);refine op1 T ?_;intros;obtain⟨fx,R⟩:=aC (bZ x.1);obtain⟨hs,L⟩:=aC (Go.Maps.has (rV nm k) (jT x.1));have aa:(gW nm x.1 k).isNone= !hs:=by rw[<-L,yS];cases gW nm x.1 k<;>rfl
   have j:=Hd (show KB b w Y/\dB Y b nm k from⟨r.a.go N (cX r.u.lt),r.u.go N⟩);have U:=Hd O;rw[R]at G;rw[aa]at K;have D:=Hd (Cj x.1 (HL.b x Z));have F:=Hd2 (show(Lit.int .i64 (k:Int)).wf=true from lz oE) (show k<maxLen by unfold maxLen;omega);have X:=Hd L;have XR:=Hd R;have E:=Hd2 G K;clear I J z Z O G K T N R L aa;cases f
   ·cases o1
    all_goals
     gi_wp2_with (first
      |(gi_at_mapUpdate;refine Go.wpListIn_mapUpdate_own _ rfl _ _ _ 262 rfl 9 3 sK underlying262 _ b k (rV nm k) rfl h.u F.u _ _ (jT x.1) rfl rfl D.out _ [] (jj underlying3 F.a) ?_;intro C y t;have HF:=Hd (show KB b w C/\dB C b nm (k+1)from⟨h.a.grown t h.u.lt,by
         unfold dB rV;rw[U.out];exact y⟩)
        clear y t)
      |(gi_at_lookup;refine Go.wpListIn_lookup_own_ok_int _ rfl _ _ 262 rfl 9 3 .i64 sK underlying262 underlying3 (xw _) b k (rV nm k) rfl g.u _ (jT x.1) rfl D.out ?_;intro c Q S;rw[X.out];have h:=Hd g.out;clear Q S)
      |(refine Cl 242 (Gq x _) ?_;rintro e w3 ⟨rfl,p⟩;have g:=Hd2 (j.a.go p (cX j.u.lt)) (j.u.go p);clear p)
      |(refine⟨bq,?_⟩))
     exact⟨⟨k+1,oE,by rw[E.a];first|rfl|simp,by rw[E.u];first|rfl|simp,by go_num,HF⟩,by simp[intOf];omega⟩
   cases o1
   all_goals
    gi_wp2_with (first
     |(gi_at_mapUpdate;refine Go.wpListIn_mapUpdate_own _ rfl _ _ _ 262 rfl 9 3 sK underlying262 _ b k (rV nm k) rfl h.u F.u _ _ (jT x.1) rfl rfl D.out _ [] (jj underlying3 F.a) ?_;intro C y t;have HF:=Hd (show KB b w C/\dB C b nm (k+1)from⟨h.a.grown t h.u.lt,by
        unfold dB rV;rw[U.out];exact y⟩)
       clear y t)
     |(refine Cl 243 (qm x.1 _ (CG W.a W.u g.a)) ?_;rintro e w4 ⟨rfl,hb4⟩;rw[XR.out];have h:=Hd2 (g.a.go hb4 (cX g.u.lt)) (g.u.go hb4);clear hb4)
     |(gi_at_lookup;refine Go.wpListIn_lookup_own_ok_int _ rfl _ _ 262 rfl 9 3 .i64 sK underlying262 underlying3 (xw _) b k (rV nm k) rfl g.u _ (jT x.1) rfl D.out ?_;intro c Q S;rw[X.out]
       skip
       clear Q S)
     |(refine Cl 242 (Gq x _) ?_;rintro e w3 ⟨rfl,p⟩;have g:=Hd2 (j.a.go p (cX j.u.lt)) (j.u.go p);clear p)
     |fail)
    exact⟨⟨k+1,oE,by rw[E.a];first|rfl|simp,by rw[E.u];first|rfl|simp,by go_num,HF⟩,by simp[intOf];omega⟩
  ·exact AA
def aZ(w:World)(b:Nat)(v:Value):Prop:=w.cell? ⟨b,0,none⟩=some v/\w.frozen? ⟨b,0,none⟩=false
theorem aZ.lt(h:aZ w b v):b<w.heap.size:=bu w _ h.1
theorem aZ.block(h:aZ w b v)(hb:w'.heap[b]?=w.heap[b]?):aZ w' b v:=by
 unfold aZ World.cell? World.frozen? at*
 simp only[hb];exact h
theorem aZ.put(h:aZ w b v):aZ (w.setCell ⟨b,0,none⟩ u) b u:=⟨cZ h.1,by simp[go_sem,h.2]⟩
theorem KB.put(_h:aZ w b v):KB b w (w.setCell ⟨b,0,none⟩ u):=⟨(cF _ _).setCell (p:=⟨b,0,none⟩) (.inl oO) _,(bw b w).setCell (p:=⟨b,0,none⟩) pc _⟩
abbrev xA(nm:List ByteArray)(s:ByteArray):Nat:=(gW nm s nm.length).getD 0
abbrev xB(nm:List ByteArray)(s:ByteArray):Bool:= !(gW nm s nm.length).isSome
theorem xE{lb:Nat}{lo:Bool}(hm:dB w b nm n)(hn:nm.length=n)(hs:s.size<=maxLen)(hv:aZ w lb (.bool lo)):
 Calls prog 244 #[.map (some b),.string s,.pointer (some ⟨lb,0,none⟩)] w fun e w'=>e=.returned (.int .i64 (xA nm s:Nat))/\KB lb w w'/\aZ w' lb (.bool (lo||xB nm s)):=by
 refine wid ?_;have x:=hv.1;have y:=hv.2;have h:=Hd hv;have HM:=Hd hm;have j:=Hd (Cj s hs);have HN:=Hd hn;obtain⟨g,f⟩:=aC (Go.Maps.has (rV nm n) (jT s));have p:=Hd f;have o:=Hd (show xB nm s= !g by rw[<-f,yS,<-hn]);have q:=Hd (Zz nm s n);clear hv hm f hn;cases lo<;>cases g
 all_goals
  refine ent func244 rfl ntmps244 ?_
  gi_wp2_with (first
   |(gi_at_lookup;refine Go.wpListIn_lookup_own_ok_int _ rfl _ _ 262 rfl 9 3 .i64 sK underlying262 underlying3 (xw _) b n (rV nm n) rfl HM.out _ (jT s) rfl j.out ?_;intro c i r;rw[p.out];have t:=Hd (show c=((xA nm s:Nat):Int) by
      have a:=q.out;rw[i]at a;injection a with a;injection a with _ h2;rw[h2,<-HN.out])
     clear i r)
   |fail)
  go_ret;refine⟨by rw[t.out];rfl,KB.put h.out,?_⟩;rw[o.out];exact h.out.put
