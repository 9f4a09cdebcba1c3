/- Lemmas -/
import Derived.Maps.OwnIn
import Derived.Test.YtfdmnogfflcllaaGreatDoorM04
import Derived.Test.YtfdmnogfflcllaaGreatDoorM13
set_option linter.all false
set_option maxRecDepth 100000
set_option maxHeartbeats 0
namespace Go.Proofs.YtfdmnogfflcllaaGreatDoor
open Go.Proofs.Tryz Go.RowKit Go.Shelf
theorem tY{p:Prop}(h:p:=by
 refine op1 V ?_;intros;obtain⟨fx,S⟩:=aC (bZ x.1);obtain⟨hs,N⟩:=aC (Go.Maps.has (rV nm k) (jT x.1));have ab:(gW nm x.1 k).isNone= !hs:=by rw[<-N,yS];cases gW nm x.1 k<;>rfl
 have r:=Hd (show KB b w V1/\dB V1 b nm k from⟨t.a.go O (cY t.u.lt),t.u.go O⟩);have W:=Hd Q;rw[S]at I;rw[ab]at L;have E:=Hd (Cj x.1 (HL.b x aa));have G:=Hd2 (show(Lit.int .i64 (k:Int)).wf=true from l_ pj) (show k<maxLen by unfold maxLen;omega);have QZ:=Hd N;have XR:=Hd S;have F:=Hd2 I L;clear J K C aa Q I L V O S N ab;cases f
 ·cases o1
  all_goals
   gi_wp2_with (first
    |(gi_at_mapUpdate;refine Go.wpListIn_mapUpdate_own _ rfl _ _ _ 262 rfl 9 3 sK underlying262 _ b k (rV nm k) rfl p.u G.u _ _ (jT x.1) rfl rfl E.out _ [] (ju underlying3 G.a) ?_;intro D z y;have HF:=Hd (show KB b w D/\dB D b nm (k+1)from⟨p.a.grown y p.u.lt,by
       unfold dB rV;rw[W.out];exact z⟩)
      clear z y)
    |(gi_at_lookup;refine Go.wpListIn_lookup_own_ok_int _ rfl _ _ 262 rfl 9 3 .i64 sK underlying262 underlying3 (xw _) b k (rV nm k) rfl g.u _ (jT x.1) rfl E.out ?_;intro c R T;rw[QZ.out];have p:=Hd g.out;clear R T)
    |(refine Cl _ (X.out _) ?_;rintro e w3 ⟨rfl,j⟩;have g:=Hd2 (r.a.go j (cY r.u.lt)) (r.u.go j);clear j)
    |(refine⟨bO,?_⟩))
   exact⟨⟨k+1,pj,by rw[F.a];first|rfl|simp,by rw[F.u];first|rfl|simp,by go_num,HF⟩,by simp[intOf];omega⟩
 cases o1
 all_goals
  gi_wp2_with (first
   |(gi_at_mapUpdate;refine Go.wpListIn_mapUpdate_own _ rfl _ _ _ 262 rfl 9 3 sK underlying262 _ b k (rV nm k) rfl p.u G.u _ _ (jT x.1) rfl rfl E.out _ [] (ju underlying3 G.a) ?_;intro D z y;have HF:=Hd (show KB b w D/\dB D b nm (k+1)from⟨p.a.grown y p.u.lt,by
      unfold dB rV;rw[W.out];exact z⟩)
     clear z y)
   |(refine Cl 243 (qm x.1 _ (CG Z.a Z.u g.a)) ?_;rintro e w4 ⟨rfl,hb4⟩;rw[XR.out];have p:=Hd2 (g.a.go hb4 (cY g.u.lt)) (g.u.go hb4);clear hb4)
   |(gi_at_lookup;refine Go.wpListIn_lookup_own_ok_int _ rfl _ _ 262 rfl 9 3 .i64 sK underlying262 underlying3 (xw _) b k (rV nm k) rfl g.u _ (jT x.1) rfl E.out ?_;intro c R T;rw[QZ.out]
     skip
     clear R T)
   |(refine Cl _ (X.out _) ?_;rintro e w3 ⟨rfl,j⟩;have g:=Hd2 (r.a.go j (cY r.u.lt)) (r.u.go j);clear j)
   |fail)
  exact⟨⟨k+1,pj,by rw[F.a];first|rfl|simp,by rw[F.u];first|rfl|simp,by go_num,HF⟩,by simp[intOf];omega⟩):p:=h
theorem AB{p:Prop}(h:p:=by have ad:k=n:=pj;clear hk ae;subst ad;have Y:=Hd2 (show(l.all fun x=>bZ x.1)=f by rw[<-J,bR pj]) K;gi_wp2;go_ret2;exact⟨by rw[Y.a,Y.u];first|rfl|simp,t.a,t.u⟩):p:=h
variable {s:ByteArray}{w w' w'':World}{b k n c m d:Nat}{nm:List ByteArray}{M:List Nat}{A B:Option Addr}{l:List bT}{v u:Value}
def jT(s:ByteArray):Lit:=.string s.data.toList
theorem xu{t:ByteArray}:jT s=jT t↔s.data.toList=t.data.toList:=⟨fun h=>by injection h,fun h=>by unfold jT;rw[h]⟩
theorem sK:Go.Maps.Keyed prog 9:=Go.Maps.string_keyed underlying9
theorem xw(w:World):(zeroValue 3).run prog w=.ok (.int .i64 0) w:=pk
def rV(nm:List ByteArray):Nat->DataW Unit
 |0=>.map []
 |k+1=>(rV nm k).put (jT (nm.getD k ByteArray.empty)) (.lit (.int .i64 (k:Int)))
def gW(nm:List ByteArray)(s:ByteArray):Nat->Option Nat
 |0=>none
 |k+1=>if(nm.getD k ByteArray.empty).data.toList=s.data.toList then some k else gW nm s k
theorem NP(nm:List ByteArray):∀k,Go.Maps.IsMap (rV nm k)
 |0=>Go.Maps.isMap_empty
 |k+1=>(NP nm k).put _ _
theorem yS(nm:List ByteArray)(s:ByteArray):∀k,Go.Maps.has (rV nm k) (jT s)=(gW nm s k).isSome
 |0=>rfl
 |k+1=>by
  unfold rV gW;by_cases h:(nm.getD k ByteArray.empty).data.toList=s.data.toList;·rw[if_pos h,xu.2 h];exact Go.Maps.has_put_same (k:=jT s) (NP nm k) trivial _
  rw[if_neg h,Go.Maps.has_put_other (fun e=>h (xu.1 e.symm))];exact yS nm s k
theorem Zz(nm:List ByteArray)(s:ByteArray):∀k,(rV nm k).atKey (jT s) (.lit (.int .i64 0))=.lit (.int .i64 (((gW nm s k).getD 0:Nat):Int))
 |0=>rfl
 |k+1=>by
  unfold rV gW;by_cases h:(nm.getD k ByteArray.empty).data.toList=s.data.toList;·rw[if_pos h,xu.2 h];exact Go.Maps.atKey_put_same (k:=jT s) (NP nm k) trivial _ _
  rw[if_neg h,nj (fun e=>h (xu.1 e.symm))];exact Zz nm s k
def dB(w:World)(b:Nat)(nm:List ByteArray)(k:Nat):Prop:=w.ownsMap prog 9 (Go.plainElem prog 3) b k (rV nm k)
theorem dB.block(h:dB w b nm k)(hb:w'.heap[b]?=w.heap[b]?):dB w' b nm k:=by obtain⟨e,a,f,g⟩:=h;exact⟨e,a,hb.trans f,g⟩
theorem dB.lt(h:dB w b nm k):b<w.heap.size:=by obtain⟨f,e,a,-⟩:=h;exact(cR.1 a).1
theorem dB.go(h:dB w b nm k)(hb:Below w w w'):dB w' b nm k:=h.block (hb.block b h.lt)
theorem dB.made(w:World)(nm:List ByteArray):dB (w.alloc (.map #[] 0)) w.heap.size nm 0:=World.ownsMap_made _ _ _ _
theorem KB.go(h:KB b w w')(hb:Below w' w' w'')(hl:b<=w'.heap.size):KB b w w'':=h.trans ⟨bq hb _,hb.mono hl⟩
theorem KB.grown(h:KB b w w')(hg:w'.grownBy w'' (some b))(hl:b<w'.heap.size):KB b w w'':=h.trans ⟨⟨hg.size,fun k hk hm=>hg.block k hk (fun e=>hm (by cases e;simp))⟩,⟨hg.os,hg.tape,hg.output,hg.size,fun k hk=>hg.block k pj (fun e=>by cases e;omega)⟩⟩
def dX(nm:List ByteArray):Nat->Bool
 |0=>true
 |k+1=>dX nm k&&(gW nm (nm.getD k ByteArray.empty) k).isNone
theorem Cj(s:ByteArray)(h:s.size<=maxLen):keyOf prog 9 s=some (jT s):=Go.WideMaps.keyOf_string_mk underlying9 h
theorem Sl.IU{x:bT}(h:Sl bT w M A n c l)(hk:l[k]?=some x):∃b o,A=some ⟨b,o,none⟩/\(w.cell? ⟨b,o+k*7,none⟩=some (.string x.1)/\w.cell? ⟨b,o+k*7+1,none⟩=some (.int .i64 x.2.1)/\w.cell? ⟨b,o+k*7+2,none⟩=some (.int .i64 x.2.2.1)/\w.cell? ⟨b,o+k*7+3,none⟩=some (.int .i64 x.2.2.2.1)/\w.cell? ⟨b,o+k*7+4,none⟩=some (.int .i64 x.2.2.2.2.1)/\w.cell? ⟨b,o+k*7+5,none⟩=some (.int .i64 x.2.2.2.2.2.1)/\w.cell? ⟨b,o+k*7+6,none⟩=some (.bool x.2.2.2.2.2.2)):=by obtain⟨b,o,f,rfl,e,a⟩:=h.get hk;obtain⟨rfl,-⟩:=lT e;exact⟨b,o,rfl,a.2 0 _ rfl,a.2 1 _ rfl,a.2 2 _ rfl,a.2 3 _ rfl,a.2 4 _ rfl,a.2 5 _ rfl,a.2 6 _ rfl⟩
theorem Sl.NQ{l:List bW}{x:bW}(h:Sl bW w M A n c l)(hk:l[k]?=some x):∃b o,A=some ⟨b,o,none⟩/\(w.cell? ⟨b,o+k*3,none⟩=some (.string x.1)/\w.cell? ⟨b,o+k*3+1,none⟩=some (.int .i64 x.2.1)/\w.cell? ⟨b,o+k*3+2,none⟩=some (.int .i64 x.2.2)):=by obtain⟨b,o,f,rfl,e,a⟩:=h.get hk;obtain⟨rfl,-⟩:=aaI e;exact⟨b,o,rfl,a.2 0 _ rfl,a.2 1 _ rfl,a.2 2 _ rfl⟩
theorem getD_map{α:Type}(f:α->ByteArray){l:List α}{x:α}(h:l[k]?=some x):(l.map f).getD k ByteArray.empty=f x:=by rw[cC,cM,h];rfl
theorem dZ{α:Type}(P:α->Bool){l:List α}{x:α}(h:l[k]?=some x):(l.take (k+1)).all P=((l.take k).all P&&P x):=by rw[dm,h,List.all_append];simp
theorem CG(ht:Tab w)(hm:dB w b nm k)(h:KB b w w'):Tab w':=by
 unfold Tab Lib.TabIs World.var? at*
 cases e:prog.globalNamed "strings.asciiSpace" with
 |none=>simp[e]at ht
 |some g=>
  simp only[e,Option.bind_some]at ht |-;obtain⟨o,j,f,-⟩:=hm;have P:g<w.heap.size:=by
   by_cases P:g<w.heap.size;·exact P
   rw[Array.getElem?_eq_none pj]at ht;cases ht
  have i:g∉ [b]:=by intro a;rw[bz]at a;subst a;rw[f]at ht;cases ht
  rw[h.k.block g P i];exact ht
theorem Gi(x:bT)(w:World):CB 235 #[.agg #[x.1,x.2.1,x.2.2.1,x.2.2.2.1,x.2.2.2.2.1,x.2.2.2.2.2.1,x.2.2.2.2.2.2]] x.1 w:=by refine wid ?_;obtain⟨W1,e,F1⟩:=dR ((Fr.nil w).a w [x.1,x.2.1,x.2.2.1,x.2.2.2.1,x.2.2.2.2.1,x.2.2.2.2.2.1,x.2.2.2.2.2.2] 59);refine op1 F1 ?_;intros;have F:=Hd F1;clear F1;refine ent func235 ntmps235 ?_;gi_wp2;go_ret;exact⟨rfl,F.out.bl⟩
theorem Gj(hx:Sl bT w M A n c l)(hn:n<=1000)(hnm:l.map (fun x=>x.1)=nm)(hsz:∀x,x∈l->x.1.size<=maxLen)(ht:Tab w)(hb:dB w b nm 0)(hM:b∈M):
 Calls prog 234 #[.map (some b),.slice A n c,.func (.func 235) #[] #[]] w fun e w'=>e=.returned (.tuple #[.bool (l.all fun x=>bZ x.1),.bool (dX nm n)])/\KB b w w'/\dB w' b nm n:=by
 refine wid ?_;have ag:=hx.len;have H:=Hd hx;have Z:=Hd2 ht hb;have HL:=fB hnm hsz hM;have ac:=Hd (show KB b w w/\dB w b nm 0 from⟨KB.refl _ _,hb⟩);have eg:=eR (P:=prog) func235 pk rfl;clear hx ht hb hnm hsz hM;refine ent func234 ntmps234 ?_;gi_wp2;gi_loopw[6,7,15] (fun v6 v7 i wr=>∃k:Nat,k<=n/\v6=.bool ((l.take k).all fun x=>bZ x.1)/\v7=.bool (dX nm k)/\i=k/\Hid (KB b w wr/\dB wr b nm k)) (fun _ _ i _=>n-(intOf i).toNat);case atStart=>exact⟨0,cf _,po,rfl,rfl,ac⟩
 case round=>
  obtain⟨k,hk,rfl,rfl,rfl,t⟩:=hrel;obtain⟨f,J⟩:=aC ((l.take k).all fun x=>bZ x.1);obtain⟨o1,K⟩:=aC (dX nm k);rw[J,K];by_cases ae:k<n
  ·obtain⟨x,C⟩:=dW l k pj;have aa:=bh C;have Q:nm.getD k ByteArray.empty=x.1:=by rw[<-HL.a];exact getD_map _ C
   have I:=dZ (fun x:bT=>bZ x.1) C;have L:dX nm (k+1)=(dX nm k&&(gW nm x.1 k).isNone):=by rw[<-Q];rfl
   rw[J]at I;rw[K]at L;obtain⟨bb,o,rfl,h0,h1,h2,h3,h4,h5,h6⟩:=(H.out.keep (t.a.k.mono (fun q hq=>by rw[bz]at hq;subst hq;exact HL.v))).IU C;obtain⟨V1,af,O,V⟩:=fP (w:=wr) ((Fr.nil wr).a wr [x.1,x.2.1,x.2.2.1,x.2.2.2.1,x.2.2.2.2.1,x.2.2.2.2.2.1,x.2.2.2.2.2.2] 59);have X:=Hd (show ∀w,Calls prog 235 #[.agg #[x.1,x.2.1,x.2.2.1,x.2.2.2.1,x.2.2.2.2.1,x.2.2.2.2.2.1,x.2.2.2.2.2.2]] w fun e w'=>e=.returned x.1/\Below w w w' from fun w=>Gi x w);exact tY
  ·exact AB
theorem Gl(x:bW)(w:World):CB 238 #[.agg #[x.1,x.2.1,x.2.2]] x.1 w:=by refine wid ?_;obtain⟨W1,e,F1⟩:=dR ((Fr.nil w).a w [x.1,x.2.1,x.2.2] 156);refine op1 F1 ?_;intros;have F:=Hd F1;clear F1;refine ent func238 ntmps238 ?_;gi_wp2;go_ret;exact⟨rfl,F.out.bl⟩
theorem Gm{l:List bW}(hx:Sl bW w M A n c l)(hn:n<=1000)(hnm:l.map (fun x=>x.1)=nm)(hsz:∀x,x∈l->x.1.size<=maxLen)(ht:Tab w)(hb:dB w b nm 0)(hM:b∈M):
 Calls prog 236 #[.map (some b),.slice A n c,.func (.func 238) #[] #[]] w fun e w'=>e=.returned (.tuple #[.bool (l.all fun x=>bZ x.1),.bool (dX nm n)])/\KB b w w'/\dB w' b nm n:=by
 refine wid ?_;have ag:=hx.len;have H:=Hd hx;have Z:=Hd2 ht hb;have HL:=fB hnm hsz hM;have ac:=Hd (show KB b w w/\dB w b nm 0 from⟨KB.refl _ _,hb⟩);have eg:=eR (P:=prog) func238 pk rfl;clear hx ht hb hnm hsz hM;refine ent func236 ntmps236 ?_;gi_wp2;gi_loopw[6,7,15] (fun v6 v7 i wr=>∃k:Nat,k<=n/\v6=.bool ((l.take k).all fun x=>bZ x.1)/\v7=.bool (dX nm k)/\i=k/\Hid (KB b w wr/\dB wr b nm k)) (fun _ _ i _=>n-(intOf i).toNat);case atStart=>exact⟨0,cf _,po,rfl,rfl,ac⟩
 case round=>
  obtain⟨k,hk,rfl,rfl,rfl,t⟩:=hrel;obtain⟨f,J⟩:=aC ((l.take k).all fun x=>bZ x.1);obtain⟨o1,K⟩:=aC (dX nm k);rw[J,K];by_cases ae:k<n
  ·obtain⟨x,C⟩:=dW l k pj;have aa:=bh C;have Q:nm.getD k ByteArray.empty=x.1:=by rw[<-HL.a];exact getD_map _ C
   have I:=dZ (fun x:bW=>bZ x.1) C;have L:dX nm (k+1)=(dX nm k&&(gW nm x.1 k).isNone):=by rw[<-Q];rfl
   rw[J]at I;rw[K]at L;obtain⟨bb,o,rfl,h0,h1,h2⟩:=(H.out.keep (t.a.k.mono (fun q hq=>by rw[bz]at hq;subst hq;exact HL.v))).NQ C;obtain⟨V1,af,O,V⟩:=fP (w:=wr) ((Fr.nil wr).a wr [x.1,x.2.1,x.2.2] 156);have X:=Hd (show ∀w,Calls prog 238 #[.agg #[x.1,x.2.1,x.2.2]] w fun e w'=>e=.returned x.1/\Below w w w' from fun w=>Gl x w);exact tY
  ·exact AB
theorem Gn(x:dA)(w:World):CB 240 #[.agg #[x.1,.slice B m d]] x.1 w:=by refine wid ?_;obtain⟨W1,e,F1⟩:=dR ((Fr.nil w).a w [x.1,.slice B m d] 142);refine op1 F1 ?_;intros;have F:=Hd F1;clear F1;refine ent func240 ntmps240 ?_;gi_wp2;go_ret;exact⟨rfl,F.out.bl⟩
theorem Gp{l:List dA}(hx:Sl dA w M A n c l)(hn:n<=1000)(hnm:l.map (fun x=>x.1)=nm)(hsz:∀x,x∈l->x.1.size<=maxLen)(ht:Tab w)(hb:dB w b nm 0)(hM:b∈M):
 Calls prog 239 #[.map (some b),.slice A n c,.func (.func 240) #[] #[]] w fun e w'=>e=.returned (.tuple #[.bool (l.all fun x=>bZ x.1),.bool (dX nm n)])/\KB b w w'/\dB w' b nm n:=by
 refine wid ?_;have ag:=hx.len;have H:=Hd hx;have Z:=Hd2 ht hb;have HL:=fB hnm hsz hM;have ac:=Hd (show KB b w w/\dB w b nm 0 from⟨KB.refl _ _,hb⟩);have eg:=eR (P:=prog) func240 pk rfl;clear hx ht hb hnm hsz hM;refine ent func239 ntmps239 ?_;gi_wp2;gi_loopw[6,7,15] (fun v6 v7 i wr=>∃k:Nat,k<=n/\v6=.bool ((l.take k).all fun x=>bZ x.1)/\v7=.bool (dX nm k)/\i=k/\Hid (KB b w wr/\dB wr b nm k)) (fun _ _ i _=>n-(intOf i).toNat);case atStart=>exact⟨0,cf _,po,rfl,rfl,ac⟩
 case round=>
  obtain⟨k,hk,rfl,rfl,rfl,t⟩:=hrel;obtain⟨f,J⟩:=aC ((l.take k).all fun x=>bZ x.1);obtain⟨o1,K⟩:=aC (dX nm k);rw[J,K];by_cases ae:k<n
  ·obtain⟨x,C⟩:=dW l k pj;have aa:=bh C;have Q:nm.getD k ByteArray.empty=x.1:=by rw[<-HL.a];exact getD_map _ C
   have I:=dZ (fun x:dA=>bZ x.1) C;have L:dX nm (k+1)=(dX nm k&&(gW nm x.1 k).isNone):=by rw[<-Q];rfl
   rw[J]at I;rw[K]at L;obtain⟨bb,o,B,m,d,rfl,⟨h0,h1⟩,-⟩:=(H.out.keep (t.a.k.mono (fun q hq=>by rw[bz]at hq;subst hq;exact HL.v))).n_ C;obtain⟨V1,af,O,V⟩:=fP (w:=wr) ((Fr.nil wr).a wr [x.1,.slice B m d] 142);have X:=Hd (show ∀w,Calls prog 240 #[.agg #[x.1,.slice B m d]] w fun e w'=>e=.returned x.1/\Below w w w' from fun w=>Gn x w);exact tY
  ·exact AB
theorem Gq(x:aJ)(w:World):CB 242 #[.agg #[x.1,x.2.1,x.2.2.1,x.2.2.2.1,x.2.2.2.2.1,x.2.2.2.2.2.1,(au x).kind,(au x).name,(au x).n,(au x).d,.slice B m d,x.2.2.2.2.2.2.2.1,x.2.2.2.2.2.2.2.2]] x.1 w:=by refine wid ?_;obtain⟨W1,e,F1⟩:=dR ((Fr.nil w).a w [x.1,x.2.1,x.2.2.1,x.2.2.2.1,x.2.2.2.2.1,x.2.2.2.2.2.1,(au x).kind,(au x).name,(au x).n,(au x).d,.slice B m d,x.2.2.2.2.2.2.2.1,x.2.2.2.2.2.2.2.2] 68);refine op1 F1 ?_;intros;have F:=Hd F1;clear F1;refine ent func242 ntmps242 ?_;gi_wp2;go_ret;exact⟨rfl,F.out.bl⟩
theorem Gs{l:List aJ}(hx:Sl aJ w M A n c l)(hn:n<=1000)(hnm:l.map (fun x=>x.1)=nm)(hsz:∀x,x∈l->x.1.size<=maxLen)(ht:Tab w)(hb:dB w b nm 0)(hM:b∈M):
 Calls prog 241 #[.map (some b),.slice A n c,.func (.func 242) #[] #[]] w fun e w'=>e=.returned (.tuple #[.bool (l.all fun x=>bZ x.1),.bool (dX nm n)])/\KB b w w'/\dB w' b nm n:=by
 refine wid ?_;have ag:=hx.len;have H:=Hd hx;have Z:=Hd2 ht hb;have HL:=fB hnm hsz hM;have ac:=Hd (show KB b w w/\dB w b nm 0 from⟨KB.refl _ _,hb⟩);have eg:=eR (P:=prog) func242 pk rfl;clear hx ht hb hnm hsz hM;refine ent func241 ntmps241 ?_;gi_wp2;gi_loopw[6,7,15] (fun v6 v7 i wr=>∃k:Nat,k<=n/\v6=.bool ((l.take k).all fun x=>bZ x.1)/\v7=.bool (dX nm k)/\i=k/\Hid (KB b w wr/\dB wr b nm k)) (fun _ _ i _=>n-(intOf i).toNat);case atStart=>exact⟨0,cf _,po,rfl,rfl,ac⟩
 case round=>
  obtain⟨k,hk,rfl,rfl,rfl,t⟩:=hrel;obtain⟨f,J⟩:=aC ((l.take k).all fun x=>bZ x.1);obtain⟨o1,K⟩:=aC (dX nm k);rw[J,K];by_cases ae:k<n
  ·obtain⟨x,C⟩:=dW l k pj;have aa:=bh C;have Q:nm.getD k ByteArray.empty=x.1:=by rw[<-HL.a];exact getD_map _ C
   have I:=dZ (fun x:aJ=>bZ x.1) C;have L:dX nm (k+1)=(dX nm k&&(gW nm x.1 k).isNone):=by rw[<-Q];rfl
   rw[J]at I;rw[K]at L;obtain⟨bb,o,B,m,d,rfl,⟨h0,h1,h2,h3,h4,h5⟩,⟨h6,h7,h8,h9,h10⟩,⟨h11,h12⟩,-,-,-⟩:=(H.out.keep (t.a.k.mono (fun q hq=>by rw[bz]at hq;subst hq;exact HL.v))).iw C;obtain⟨V1,af,O,V⟩:=fP (w:=wr) ((Fr.nil wr).a wr [x.1,x.2.1,x.2.2.1,x.2.2.2.1,x.2.2.2.2.1,x.2.2.2.2.2.1,(au x).kind,(au x).name,(au x).n,(au x).d,.slice B m d,x.2.2.2.2.2.2.2.1,x.2.2.2.2.2.2.2.2] 68);have X:=Hd (show ∀w,Calls prog 242 #[.agg #[x.1,x.2.1,x.2.2.1,x.2.2.2.1,x.2.2.2.2.1,x.2.2.2.2.2.1,(au x).kind,(au x).name,(au x).n,(au x).d,.slice B m d,x.2.2.2.2.2.2.2.1,x.2.2.2.2.2.2.2.2]] w fun e w'=>e=.returned x.1/\Below w w w' from fun w=>Gq x w);exact tY
  ·exact AB
def aZ(w:World)(b:Nat)(v:Value):Prop:=w.cell? ⟨b,0,none⟩=some v/\w.frozen? ⟨b,0,none⟩=false
theorem aZ.lt(h:aZ w b v):b<w.heap.size:=bw w _ h.1
theorem aZ.block(h:aZ w b v)(hb:w'.heap[b]?=w.heap[b]?):aZ w' b v:=by
 unfold aZ World.cell? World.frozen? at*
 simp only[hb];exact h
theorem aZ.put(h:aZ w b v):aZ (w.setCell ⟨b,0,none⟩ u) b u:=⟨cZ h.1,by simp[go_sem,h.2]⟩
theorem KB.put(_h:aZ w b v):KB b w (w.setCell ⟨b,0,none⟩ u):=⟨(cG _ _).setCell (p:=⟨b,0,none⟩) (.inl po) _,(bL b w).setCell (p:=⟨b,0,none⟩) pD _⟩
abbrev xA(nm:List ByteArray)(s:ByteArray):Nat:=(gW nm s nm.length).getD 0
abbrev xB(nm:List ByteArray)(s:ByteArray):Bool:= !(gW nm s nm.length).isSome
theorem xE{lb:Nat}{lo:Bool}(hm:dB w b nm n)(hn:nm.length=n)(hs:s.size<=maxLen)(hv:aZ w lb lo):
 Calls prog 244 #[.map (some b),s,.pointer (some ⟨lb,0,none⟩)] w fun e w'=>e=.returned (.int .i64 (xA nm s:Nat))/\KB lb w w'/\aZ w' lb (.bool (lo||xB nm s)):=by
 refine wid ?_;have y:=hv.1;have z:=hv.2;have i:=Hd hv;have HM:=Hd hm;have o:=Hd (Cj s hs);have HN:=Hd hn;obtain⟨g,f⟩:=aC (Go.Maps.has (rV nm n) (jT s));have q:=Hd f;have p:=Hd (show xB nm s= !g by rw[<-f,yS,<-hn]);have r:=Hd (Zz nm s n);clear hv hm f hn;cases lo<;>cases g
 all_goals
  refine ent func244 ntmps244 ?_
  gi_wp2_with (first
   |(gi_at_lookup;refine Go.wpListIn_lookup_own_ok_int _ rfl _ _ 262 rfl 9 3 .i64 sK underlying262 underlying3 (xw _) b n (rV nm n) rfl HM.out _ (jT s) rfl o.out ?_;intro c j x;rw[q.out];have t:=Hd (show c=((xA nm s:Nat):Int) by
      have a:=r.out;rw[j]at a;injection a with a;injection a with _ h2;rw[h2,<-HN.out])
     clear j x)
   |fail)
  go_ret;refine⟨by rw[t.out];rfl,KB.put i.out,?_⟩;rw[p.out];exact i.out.put
