/- Lemmas and walks; no statement is proved here. -/
import Derived.Maps.OwnIn
import Derived.Maps.Views
import Derived.Test.YtefnknhjlejalaaGreatDoorM04
import Derived.Test.YtefnknhjlejalaaGreatDoorM25
set_option linter.unusedVariables false
set_option linter.unusedSimpArgs false
set_option maxRecDepth 20000
set_option maxHeartbeats 6000000
namespace Go.Proofs.YtefnknhjlejalaaGreatDoor
open Go.Proofs.Tryz Go.RowKit Go.Shelf
theorem ac7{p:Prop}(h:p:=by
 have hkn:k=n:=by omega
 clear hk hlt;subst hkn;have HR:=Hd2 (show(l.all fun x=>bZ x.1)=f by rw[<-hf,List.take_of_length_le (by omega)]) ho;gi_wp2;go_ret2;exact⟨by rw[HR.out.1,HR.out.2];first|rfl|simp,hS.out.1,hS.out.2⟩):p:=h
variable {s:ByteArray}{w w' w'':World}{b k n c m d:Nat}{nm:List ByteArray}{M:List Nat}{A B:Option Addr}{l:List bT}{v u:Value}
def jT(s:ByteArray):Lit:=.string s.data.toList
theorem xu{t:ByteArray}:jT s=jT t↔s.data.toList=t.data.toList:=⟨fun h=>by injection h,fun h=>by unfold jT;rw[h]⟩
theorem sK:Go.Maps.Keyed prog 9:=Go.Maps.string_keyed underlying9
theorem xw(w:World):(zeroValue 3).run prog w=.ok (.int .i64 0) w:=by kernel_rfl
def rV(nm:List ByteArray):Nat->DataW Unit
 |0=>.map []
 |k+1=>(rV nm k).put (jT (nm.getD k ByteArray.empty)) (.lit (.int .i64 (k:Int)))
def gW(nm:List ByteArray)(s:ByteArray):Nat->Option Nat
 |0=>none
 |k+1=>if(nm.getD k ByteArray.empty).data.toList=s.data.toList then some k else gW nm s k
theorem NP(nm:List ByteArray):∀k,Go.Maps.IsMap (rV nm k)
 |0=>Go.Maps.isMap_empty
 |k+1=>(NP nm k).put _ _
theorem yS(nm:List ByteArray)(s:ByteArray):∀k,Go.Maps.has (rV nm k) (jT s)=(gW nm s k).isSome
 |0=>rfl
 |k+1=>by
  unfold rV gW;by_cases h:(nm.getD k ByteArray.empty).data.toList=s.data.toList;·rw[if_pos h,xu.2 h];exact Go.Maps.has_put_same (k:=jT s) (NP nm k) trivial _
  rw[if_neg h,Go.Maps.has_put_other (fun e=>h (xu.1 e.symm))];exact yS nm s k
theorem Zz(nm:List ByteArray)(s:ByteArray):∀k,(rV nm k).atKey (jT s) (.lit (.int .i64 0))=.lit (.int .i64 (((gW nm s k).getD 0:Nat):Int))
 |0=>rfl
 |k+1=>by
  unfold rV gW;by_cases h:(nm.getD k ByteArray.empty).data.toList=s.data.toList;·rw[if_pos h,xu.2 h];exact Go.Maps.atKey_put_same (k:=jT s) (NP nm k) trivial _ _
  rw[if_neg h,Go.Maps.atKey_put_other (fun e=>h (xu.1 e.symm))];exact Zz nm s k
def dB(w:World)(b:Nat)(nm:List ByteArray)(k:Nat):Prop:=w.ownsMap prog 9 (Go.plainElem prog 3) b k (rV nm k)
theorem dB.block(h:dB w b nm k)(hb:w'.heap[b]?=w.heap[b]?):dB w' b nm k:=by obtain⟨es,clock,h1,h2⟩:=h;exact⟨es,clock,hb.trans h1,h2⟩
theorem dB.lt(h:dB w b nm k):b<w.heap.size:=by obtain⟨es,clock,h1,-⟩:=h;exact(Array.getElem?_eq_some_iff.1 h1).1
theorem dB.go(h:dB w b nm k)(hb:Below w.heap.size w w'):dB w' b nm k:=h.block (hb.block b h.lt)
theorem dB.made(w:World)(nm:List ByteArray):dB (w.alloc (.map #[] 0)) w.heap.size nm 0:=World.ownsMap_made _ _ _ _
theorem KB.go(h:KB b w w')(hb:Below w'.heap.size w' w'')(hl:b<=w'.heap.size):KB b w w'':=h.trans ⟨Keeps.of_below hb _,hb.mono hl⟩
theorem KB.grown(h:KB b w w')(hg:w'.grownBy w'' (some b))(hl:b<w'.heap.size):KB b w w'':=h.trans ⟨⟨hg.size,fun k hk hm=>hg.block k hk (fun e=>hm (by cases e;simp))⟩,⟨hg.os,hg.tape,hg.output,hg.size,fun k hk=>hg.block k (by omega) (fun e=>by cases e;omega)⟩⟩
def dX(nm:List ByteArray):Nat->Bool
 |0=>true
 |k+1=>dX nm k&&(gW nm (nm.getD k ByteArray.empty) k).isNone
theorem Cj(s:ByteArray)(h:s.size<=maxLen):keyOf prog 9 (.string s)=some (jT s):=Go.WideMaps.keyOf_string_mk underlying9 h
theorem Sl.IU{x:bT}(h:Sl bT w M A n c l)(hk:l[k]?=some x):∃b o,A=some ⟨b,o,none⟩/\(w.cell? ⟨b,o+k*7,none⟩=some (.string x.1)/\w.cell? ⟨b,o+k*7+1,none⟩=some (.int .i64 x.2.1)/\w.cell? ⟨b,o+k*7+2,none⟩=some (.int .i64 x.2.2.1)/\w.cell? ⟨b,o+k*7+3,none⟩=some (.int .i64 x.2.2.2.1)/\w.cell? ⟨b,o+k*7+4,none⟩=some (.int .i64 x.2.2.2.2.1)/\w.cell? ⟨b,o+k*7+5,none⟩=some (.int .i64 x.2.2.2.2.2.1)/\w.cell? ⟨b,o+k*7+6,none⟩=some (.bool x.2.2.2.2.2.2)):=by obtain⟨b,o,es,rfl,h1,h2⟩:=h.get hk;obtain⟨rfl,-⟩:=lT h1;exact⟨b,o,rfl,h2.2 0 _ rfl,h2.2 1 _ rfl,h2.2 2 _ rfl,h2.2 3 _ rfl,h2.2 4 _ rfl,h2.2 5 _ rfl,h2.2 6 _ rfl⟩
theorem Sl.NQ{l:List bW}{x:bW}(h:Sl bW w M A n c l)(hk:l[k]?=some x):∃b o,A=some ⟨b,o,none⟩/\(w.cell? ⟨b,o+k*3,none⟩=some (.string x.1)/\w.cell? ⟨b,o+k*3+1,none⟩=some (.int .i64 x.2.1)/\w.cell? ⟨b,o+k*3+2,none⟩=some (.int .i64 x.2.2)):=by obtain⟨b,o,es,rfl,h1,h2⟩:=h.get hk;obtain⟨rfl,-⟩:=oU h1;exact⟨b,o,rfl,h2.2 0 _ rfl,h2.2 1 _ rfl,h2.2 2 _ rfl⟩
theorem getD_map{α:Type}(f:α->ByteArray){l:List α}{x:α}(h:l[k]?=some x):(l.map f).getD k ByteArray.empty=f x:=by rw[List.getD_eq_getElem?_getD,List.getElem?_map,h];rfl
theorem dZ{α:Type}(P:α->Bool){l:List α}{x:α}(h:l[k]?=some x):(l.take (k+1)).all P=((l.take k).all P&&P x):=by rw[List.take_add_one,h,List.all_append];simp
theorem CG(ht:Tab w)(hm:dB w b nm k)(h:KB b w w'):Tab w':=by
 unfold Tab Lib.TabIs World.var? at*
 cases e:prog.globalNamed "strings.asciiSpace" with
 |none=>simp[e]at ht
 |some g=>
  simp only[e,Option.bind_some]at ht |-;obtain⟨es,clock,h1,-⟩:=hm;have hg:g<w.heap.size:=by
   by_cases hg:g<w.heap.size;·exact hg
   rw[Array.getElem?_eq_none (by omega)]at ht;cases ht
  have hne:g∉ [b]:=by intro hmem;rw[List.mem_singleton]at hmem;subst hmem;rw[h1]at ht;cases ht
  rw[h.k.block g hg hne];exact ht
theorem Gi(x:bT)(w:World):CB 169 #[.agg #[.string x.1,.int .i64 x.2.1,.int .i64 x.2.2.1,.int .i64 x.2.2.2.1,.int .i64 x.2.2.2.2.1,.int .i64 x.2.2.2.2.2.1,.bool x.2.2.2.2.2.2]] (.string x.1) w:=by refine wid ?_;obtain⟨W1,hW1,F1⟩:=nam ((Fr.nil w).a w.heap.size [.string x.1,.int .i64 x.2.1,.int .i64 x.2.2.1,.int .i64 x.2.2.2.1,.int .i64 x.2.2.2.2.1,.int .i64 x.2.2.2.2.2.1,.bool x.2.2.2.2.2.2] 95);refine op1 F1 ?_;intros;have F:=Hd F1;clear F1;refine ent func169 rfl ntmps169 ?_;gi_wp2;go_ret;exact⟨rfl,F.out.bl⟩
set_option maxHeartbeats 16000000 in
theorem Gj(hx:Sl bT w M A n c l)(hn:n<=1000)(hnm:l.map (fun x=>x.1)=nm)(hsz:∀x,x∈l->x.1.size<=maxLen)(ht:Tab w)(hb:dB w b nm 0)(hM:b∈M):
 Calls prog 168 #[.map (some b),.slice A n c,.func (.func 169) #[] #[]] w fun e w'=>e=.returned (.tuple #[.bool (l.all fun x=>bZ x.1),.bool (dX nm n)])/\KB b w w'/\dB w' b nm n:=by
 refine wid ?_;have hlen:=hx.len;have H:=Hd hx;have HT:=Hd2 ht hb;have HL:=fB hnm hsz hM;have HB0:=Hd (show KB b w w/\dB w b nm 0 from⟨KB.refl _ _,hb⟩);have eg:=enters_of (P:=prog) func169 (by kernel_rfl) rfl;clear hx ht hb hnm hsz hM;refine ent func168 rfl ntmps168 ?_;gi_wp2;gi_loopw[6,7,15] (fun v6 v7 i wr=>∃k:Nat,k<=n/\v6=.bool ((l.take k).all fun x=>bZ x.1)/\v7=.bool (dX nm k)/\i=.int .i64 k/\Hid (KB b w wr/\dB wr b nm k)) (fun _ _ i _=>n-(intOf i).toNat);case atStart=>exact⟨0,Nat.zero_le _,by simp,rfl,rfl,HB0⟩
 case round=>
  obtain⟨k,hk,rfl,rfl,rfl,hS⟩:=hrel;obtain⟨f,hf⟩:=aC ((l.take k).all fun x=>bZ x.1);obtain⟨o1,ho⟩:=aC (dX nm k);rw[hf,ho];by_cases hlt:k<n
  ·obtain⟨x,hxk⟩:=dW l k (by omega);have hin:=List.mem_of_getElem? hxk;have hDD:nm.getD k ByteArray.empty=x.1:=by rw[<-HL.out.1];exact getD_map _ hxk
   have hall:=dZ (fun x:bT=>bZ x.1) hxk;have kL:dX nm (k+1)=(dX nm k&&(gW nm x.1 k).isNone):=by rw[<-hDD];rfl
   rw[hf]at hall;rw[ho]at kL;obtain⟨bb,o,rfl,h0,h1,h2,h3,h4,h5,h6⟩:=(H.out.keep (hS.out.1.k.mono (fun q hq=>by rw[List.mem_singleton]at hq;subst hq;exact HL.out.2.2))).IU hxk;obtain⟨V1,hV1,dD,G1⟩:=fP (w:=wr) ((Fr.nil wr).a wr.heap.size [.string x.1,.int .i64 x.2.1,.int .i64 x.2.2.1,.int .i64 x.2.2.2.1,.int .i64 x.2.2.2.2.1,.int .i64 x.2.2.2.2.2.1,.bool x.2.2.2.2.2.2] 95);refine op1 G1 ?_;intros;obtain⟨fx,hfx⟩:=aC (bZ x.1);obtain⟨hs,IV⟩:=aC (Go.Maps.has (rV nm k) (jT x.1));have hsn:(gW nm x.1 k).isNone= !hs:=by rw[<-IV,yS];cases gW nm x.1 k<;>rfl
   have HV:=Hd (show KB b w V1/\dB V1 b nm k from⟨hS.out.1.go dD (Nat.le_of_lt hS.out.2.lt),hS.out.2.go dD⟩);have HD:=Hd hDD;rw[hfx]at hall;rw[hsn]at kL;have EZ:=Hd (Cj x.1 (HL.out.2.1 x hin));have IW:=Hd2 (show(Lit.int .i64 (k:Int)).wf=true from Go.WalkArith.wf_i64 (by omega)) (show k<maxLen by unfold maxLen;omega);have QZ:=Hd IV;have XR:=Hd hfx;have HA:=Hd2 hall kL;clear hf ho hxk hin hDD hall kL G1 dD hfx IV hsn;cases f
   ·cases o1
    all_goals
     gi_wp2_with (first
      |(gi_at_mapUpdate;refine Go.wpListIn_mapUpdate_own _ rfl _ _ _ 207 rfl 9 3 sK underlying207 _ b k (rV nm k) rfl uT.out.2 IW.out.2 _ _ (jT x.1) rfl rfl EZ.out _ [] (Go.plainElem_int underlying3 IW.out.1) ?_;intro w5 hown5 hg5;have HF:=Hd (show KB b w w5/\dB w5 b nm (k+1)from⟨uT.out.1.grown hg5 uT.out.2.lt,by
         unfold dB rV;rw[HD.out];exact hown5⟩)
        clear hown5 hg5)
      |(gi_at_lookup;refine Go.wpListIn_lookup_own_ok_int _ rfl _ _ 207 rfl 9 3 .i64 sK underlying207 underlying3 (xw _) b k (rV nm k) rfl qx.out.2 _ (jT x.1) rfl EZ.out ?_;intro c hat hwc;rw[QZ.out];have uT:=Hd qx.out;clear hat hwc)
      |(refine Cl 169 (Gi x _) ?_;rintro e w3 ⟨rfl,hb3⟩;have qx:=Hd2 (HV.out.1.go hb3 (Nat.le_of_lt HV.out.2.lt)) (HV.out.2.go hb3);clear hb3)
      |(refine⟨trivial,?_⟩))
     exact⟨⟨k+1,by omega,by rw[HA.out.1];first|rfl|simp,by rw[HA.out.2];first|rfl|simp,by go_num,HF⟩,by simp[intOf];omega⟩
   cases o1
   all_goals
    gi_wp2_with (first
     |(gi_at_mapUpdate;refine Go.wpListIn_mapUpdate_own _ rfl _ _ _ 207 rfl 9 3 sK underlying207 _ b k (rV nm k) rfl uT.out.2 IW.out.2 _ _ (jT x.1) rfl rfl EZ.out _ [] (Go.plainElem_int underlying3 IW.out.1) ?_;intro w5 hown5 hg5;have HF:=Hd (show KB b w w5/\dB w5 b nm (k+1)from⟨uT.out.1.grown hg5 uT.out.2.lt,by
        unfold dB rV;rw[HD.out];exact hown5⟩)
       clear hown5 hg5)
     |(refine Cl 177 (qm x.1 _ (CG HT.out.1 HT.out.2 qx.out.1)) ?_;rintro e w4 ⟨rfl,hb4⟩;rw[XR.out];have uT:=Hd2 (qx.out.1.go hb4 (Nat.le_of_lt qx.out.2.lt)) (qx.out.2.go hb4);clear hb4)
     |(gi_at_lookup;refine Go.wpListIn_lookup_own_ok_int _ rfl _ _ 207 rfl 9 3 .i64 sK underlying207 underlying3 (xw _) b k (rV nm k) rfl qx.out.2 _ (jT x.1) rfl EZ.out ?_;intro c hat hwc;rw[QZ.out]
       skip
       clear hat hwc)
     |(refine Cl 169 (Gi x _) ?_;rintro e w3 ⟨rfl,hb3⟩;have qx:=Hd2 (HV.out.1.go hb3 (Nat.le_of_lt HV.out.2.lt)) (HV.out.2.go hb3);clear hb3)
     |fail)
    exact⟨⟨k+1,by omega,by rw[HA.out.1];first|rfl|simp,by rw[HA.out.2];first|rfl|simp,by go_num,HF⟩,by simp[intOf];omega⟩
  ·exact ac7
theorem Gl(x:bW)(w:World):CB 172 #[.agg #[.string x.1,.int .i64 x.2.1,.int .i64 x.2.2]] (.string x.1) w:=by refine wid ?_;obtain⟨W1,hW1,F1⟩:=nam ((Fr.nil w).a w.heap.size [.string x.1,.int .i64 x.2.1,.int .i64 x.2.2] 121);refine op1 F1 ?_;intros;have F:=Hd F1;clear F1;refine ent func172 rfl ntmps172 ?_;gi_wp2;go_ret;exact⟨rfl,F.out.bl⟩
set_option maxHeartbeats 16000000 in
theorem Gm{l:List bW}(hx:Sl bW w M A n c l)(hn:n<=1000)(hnm:l.map (fun x=>x.1)=nm)(hsz:∀x,x∈l->x.1.size<=maxLen)(ht:Tab w)(hb:dB w b nm 0)(hM:b∈M):
 Calls prog 170 #[.map (some b),.slice A n c,.func (.func 172) #[] #[]] w fun e w'=>e=.returned (.tuple #[.bool (l.all fun x=>bZ x.1),.bool (dX nm n)])/\KB b w w'/\dB w' b nm n:=by
 refine wid ?_;have hlen:=hx.len;have H:=Hd hx;have HT:=Hd2 ht hb;have HL:=fB hnm hsz hM;have HB0:=Hd (show KB b w w/\dB w b nm 0 from⟨KB.refl _ _,hb⟩);have eg:=enters_of (P:=prog) func172 (by kernel_rfl) rfl;clear hx ht hb hnm hsz hM;refine ent func170 rfl ntmps170 ?_;gi_wp2;gi_loopw[6,7,15] (fun v6 v7 i wr=>∃k:Nat,k<=n/\v6=.bool ((l.take k).all fun x=>bZ x.1)/\v7=.bool (dX nm k)/\i=.int .i64 k/\Hid (KB b w wr/\dB wr b nm k)) (fun _ _ i _=>n-(intOf i).toNat);case atStart=>exact⟨0,Nat.zero_le _,by simp,rfl,rfl,HB0⟩
 case round=>
  obtain⟨k,hk,rfl,rfl,rfl,hS⟩:=hrel;obtain⟨f,hf⟩:=aC ((l.take k).all fun x=>bZ x.1);obtain⟨o1,ho⟩:=aC (dX nm k);rw[hf,ho];by_cases hlt:k<n
  ·obtain⟨x,hxk⟩:=dW l k (by omega);have hin:=List.mem_of_getElem? hxk;have hDD:nm.getD k ByteArray.empty=x.1:=by rw[<-HL.out.1];exact getD_map _ hxk
   have hall:=dZ (fun x:bW=>bZ x.1) hxk;have kL:dX nm (k+1)=(dX nm k&&(gW nm x.1 k).isNone):=by rw[<-hDD];rfl
   rw[hf]at hall;rw[ho]at kL;obtain⟨bb,o,rfl,h0,h1,h2⟩:=(H.out.keep (hS.out.1.k.mono (fun q hq=>by rw[List.mem_singleton]at hq;subst hq;exact HL.out.2.2))).NQ hxk;obtain⟨V1,hV1,dD,G1⟩:=fP (w:=wr) ((Fr.nil wr).a wr.heap.size [.string x.1,.int .i64 x.2.1,.int .i64 x.2.2] 121);refine op1 G1 ?_;intros;obtain⟨fx,hfx⟩:=aC (bZ x.1);obtain⟨hs,IV⟩:=aC (Go.Maps.has (rV nm k) (jT x.1));have hsn:(gW nm x.1 k).isNone= !hs:=by rw[<-IV,yS];cases gW nm x.1 k<;>rfl
   have HV:=Hd (show KB b w V1/\dB V1 b nm k from⟨hS.out.1.go dD (Nat.le_of_lt hS.out.2.lt),hS.out.2.go dD⟩);have HD:=Hd hDD;rw[hfx]at hall;rw[hsn]at kL;have EZ:=Hd (Cj x.1 (HL.out.2.1 x hin));have IW:=Hd2 (show(Lit.int .i64 (k:Int)).wf=true from Go.WalkArith.wf_i64 (by omega)) (show k<maxLen by unfold maxLen;omega);have QZ:=Hd IV;have XR:=Hd hfx;have HA:=Hd2 hall kL;clear hf ho hxk hin hDD hall kL G1 dD hfx IV hsn;cases f
   ·cases o1
    all_goals
     gi_wp2_with (first
      |(gi_at_mapUpdate;refine Go.wpListIn_mapUpdate_own _ rfl _ _ _ 207 rfl 9 3 sK underlying207 _ b k (rV nm k) rfl uT.out.2 IW.out.2 _ _ (jT x.1) rfl rfl EZ.out _ [] (Go.plainElem_int underlying3 IW.out.1) ?_;intro w5 hown5 hg5;have HF:=Hd (show KB b w w5/\dB w5 b nm (k+1)from⟨uT.out.1.grown hg5 uT.out.2.lt,by
         unfold dB rV;rw[HD.out];exact hown5⟩)
        clear hown5 hg5)
      |(gi_at_lookup;refine Go.wpListIn_lookup_own_ok_int _ rfl _ _ 207 rfl 9 3 .i64 sK underlying207 underlying3 (xw _) b k (rV nm k) rfl qx.out.2 _ (jT x.1) rfl EZ.out ?_;intro c hat hwc;rw[QZ.out];have uT:=Hd qx.out;clear hat hwc)
      |(refine Cl 172 (Gl x _) ?_;rintro e w3 ⟨rfl,hb3⟩;have qx:=Hd2 (HV.out.1.go hb3 (Nat.le_of_lt HV.out.2.lt)) (HV.out.2.go hb3);clear hb3)
      |(refine⟨trivial,?_⟩))
     exact⟨⟨k+1,by omega,by rw[HA.out.1];first|rfl|simp,by rw[HA.out.2];first|rfl|simp,by go_num,HF⟩,by simp[intOf];omega⟩
   cases o1
   all_goals
    gi_wp2_with (first
     |(gi_at_mapUpdate;refine Go.wpListIn_mapUpdate_own _ rfl _ _ _ 207 rfl 9 3 sK underlying207 _ b k (rV nm k) rfl uT.out.2 IW.out.2 _ _ (jT x.1) rfl rfl EZ.out _ [] (Go.plainElem_int underlying3 IW.out.1) ?_;intro w5 hown5 hg5;have HF:=Hd (show KB b w w5/\dB w5 b nm (k+1)from⟨uT.out.1.grown hg5 uT.out.2.lt,by
        unfold dB rV;rw[HD.out];exact hown5⟩)
       clear hown5 hg5)
     |(refine Cl 177 (qm x.1 _ (CG HT.out.1 HT.out.2 qx.out.1)) ?_;rintro e w4 ⟨rfl,hb4⟩;rw[XR.out];have uT:=Hd2 (qx.out.1.go hb4 (Nat.le_of_lt qx.out.2.lt)) (qx.out.2.go hb4);clear hb4)
     |(gi_at_lookup;refine Go.wpListIn_lookup_own_ok_int _ rfl _ _ 207 rfl 9 3 .i64 sK underlying207 underlying3 (xw _) b k (rV nm k) rfl qx.out.2 _ (jT x.1) rfl EZ.out ?_;intro c hat hwc;rw[QZ.out]
       skip
       clear hat hwc)
     |(refine Cl 172 (Gl x _) ?_;rintro e w3 ⟨rfl,hb3⟩;have qx:=Hd2 (HV.out.1.go hb3 (Nat.le_of_lt HV.out.2.lt)) (HV.out.2.go hb3);clear hb3)
     |fail)
    exact⟨⟨k+1,by omega,by rw[HA.out.1];first|rfl|simp,by rw[HA.out.2];first|rfl|simp,by go_num,HF⟩,by simp[intOf];omega⟩
  ·exact ac7
theorem Gn(x:dA)(w:World):CB 174 #[.agg #[.string x.1,.slice B m d]] (.string x.1) w:=by refine wid ?_;obtain⟨W1,hW1,F1⟩:=nam ((Fr.nil w).a w.heap.size [.string x.1,.slice B m d] 169);refine op1 F1 ?_;intros;have F:=Hd F1;clear F1;refine ent func174 rfl ntmps174 ?_;gi_wp2;go_ret;exact⟨rfl,F.out.bl⟩
set_option maxHeartbeats 16000000 in
theorem Gp{l:List dA}(hx:Sl dA w M A n c l)(hn:n<=1000)(hnm:l.map (fun x=>x.1)=nm)(hsz:∀x,x∈l->x.1.size<=maxLen)(ht:Tab w)(hb:dB w b nm 0)(hM:b∈M):
 Calls prog 173 #[.map (some b),.slice A n c,.func (.func 174) #[] #[]] w fun e w'=>e=.returned (.tuple #[.bool (l.all fun x=>bZ x.1),.bool (dX nm n)])/\KB b w w'/\dB w' b nm n:=by
 refine wid ?_;have hlen:=hx.len;have H:=Hd hx;have HT:=Hd2 ht hb;have HL:=fB hnm hsz hM;have HB0:=Hd (show KB b w w/\dB w b nm 0 from⟨KB.refl _ _,hb⟩);have eg:=enters_of (P:=prog) func174 (by kernel_rfl) rfl;clear hx ht hb hnm hsz hM;refine ent func173 rfl ntmps173 ?_;gi_wp2;gi_loopw[6,7,15] (fun v6 v7 i wr=>∃k:Nat,k<=n/\v6=.bool ((l.take k).all fun x=>bZ x.1)/\v7=.bool (dX nm k)/\i=.int .i64 k/\Hid (KB b w wr/\dB wr b nm k)) (fun _ _ i _=>n-(intOf i).toNat);case atStart=>exact⟨0,Nat.zero_le _,by simp,rfl,rfl,HB0⟩
 case round=>
  obtain⟨k,hk,rfl,rfl,rfl,hS⟩:=hrel;obtain⟨f,hf⟩:=aC ((l.take k).all fun x=>bZ x.1);obtain⟨o1,ho⟩:=aC (dX nm k);rw[hf,ho];by_cases hlt:k<n
  ·obtain⟨x,hxk⟩:=dW l k (by omega);have hin:=List.mem_of_getElem? hxk;have hDD:nm.getD k ByteArray.empty=x.1:=by rw[<-HL.out.1];exact getD_map _ hxk
   have hall:=dZ (fun x:dA=>bZ x.1) hxk;have kL:dX nm (k+1)=(dX nm k&&(gW nm x.1 k).isNone):=by rw[<-hDD];rfl
   rw[hf]at hall;rw[ho]at kL;obtain⟨bb,o,B,m,d,rfl,⟨h0,h1⟩,-⟩:=(H.out.keep (hS.out.1.k.mono (fun q hq=>by rw[List.mem_singleton]at hq;subst hq;exact HL.out.2.2))).n_ hxk;obtain⟨V1,hV1,dD,G1⟩:=fP (w:=wr) ((Fr.nil wr).a wr.heap.size [.string x.1,.slice B m d] 169);refine op1 G1 ?_;intros;obtain⟨fx,hfx⟩:=aC (bZ x.1);obtain⟨hs,IV⟩:=aC (Go.Maps.has (rV nm k) (jT x.1));have hsn:(gW nm x.1 k).isNone= !hs:=by rw[<-IV,yS];cases gW nm x.1 k<;>rfl
   have HV:=Hd (show KB b w V1/\dB V1 b nm k from⟨hS.out.1.go dD (Nat.le_of_lt hS.out.2.lt),hS.out.2.go dD⟩);have HD:=Hd hDD;rw[hfx]at hall;rw[hsn]at kL;have EZ:=Hd (Cj x.1 (HL.out.2.1 x hin));have IW:=Hd2 (show(Lit.int .i64 (k:Int)).wf=true from Go.WalkArith.wf_i64 (by omega)) (show k<maxLen by unfold maxLen;omega);have QZ:=Hd IV;have XR:=Hd hfx;have HA:=Hd2 hall kL;clear hf ho hxk hin hDD hall kL G1 dD hfx IV hsn;cases f
   ·cases o1
    all_goals
     gi_wp2_with (first
      |(gi_at_mapUpdate;refine Go.wpListIn_mapUpdate_own _ rfl _ _ _ 207 rfl 9 3 sK underlying207 _ b k (rV nm k) rfl uT.out.2 IW.out.2 _ _ (jT x.1) rfl rfl EZ.out _ [] (Go.plainElem_int underlying3 IW.out.1) ?_;intro w5 hown5 hg5;have HF:=Hd (show KB b w w5/\dB w5 b nm (k+1)from⟨uT.out.1.grown hg5 uT.out.2.lt,by
         unfold dB rV;rw[HD.out];exact hown5⟩)
        clear hown5 hg5)
      |(gi_at_lookup;refine Go.wpListIn_lookup_own_ok_int _ rfl _ _ 207 rfl 9 3 .i64 sK underlying207 underlying3 (xw _) b k (rV nm k) rfl qx.out.2 _ (jT x.1) rfl EZ.out ?_;intro c hat hwc;rw[QZ.out];have uT:=Hd qx.out;clear hat hwc)
      |(refine Cl 174 (Gn x _) ?_;rintro e w3 ⟨rfl,hb3⟩;have qx:=Hd2 (HV.out.1.go hb3 (Nat.le_of_lt HV.out.2.lt)) (HV.out.2.go hb3);clear hb3)
      |(refine⟨trivial,?_⟩))
     exact⟨⟨k+1,by omega,by rw[HA.out.1];first|rfl|simp,by rw[HA.out.2];first|rfl|simp,by go_num,HF⟩,by simp[intOf];omega⟩
   cases o1
   all_goals
    gi_wp2_with (first
     |(gi_at_mapUpdate;refine Go.wpListIn_mapUpdate_own _ rfl _ _ _ 207 rfl 9 3 sK underlying207 _ b k (rV nm k) rfl uT.out.2 IW.out.2 _ _ (jT x.1) rfl rfl EZ.out _ [] (Go.plainElem_int underlying3 IW.out.1) ?_;intro w5 hown5 hg5;have HF:=Hd (show KB b w w5/\dB w5 b nm (k+1)from⟨uT.out.1.grown hg5 uT.out.2.lt,by
        unfold dB rV;rw[HD.out];exact hown5⟩)
       clear hown5 hg5)
     |(refine Cl 177 (qm x.1 _ (CG HT.out.1 HT.out.2 qx.out.1)) ?_;rintro e w4 ⟨rfl,hb4⟩;rw[XR.out];have uT:=Hd2 (qx.out.1.go hb4 (Nat.le_of_lt qx.out.2.lt)) (qx.out.2.go hb4);clear hb4)
     |(gi_at_lookup;refine Go.wpListIn_lookup_own_ok_int _ rfl _ _ 207 rfl 9 3 .i64 sK underlying207 underlying3 (xw _) b k (rV nm k) rfl qx.out.2 _ (jT x.1) rfl EZ.out ?_;intro c hat hwc;rw[QZ.out]
       skip
       clear hat hwc)
     |(refine Cl 174 (Gn x _) ?_;rintro e w3 ⟨rfl,hb3⟩;have qx:=Hd2 (HV.out.1.go hb3 (Nat.le_of_lt HV.out.2.lt)) (HV.out.2.go hb3);clear hb3)
     |fail)
    exact⟨⟨k+1,by omega,by rw[HA.out.1];first|rfl|simp,by rw[HA.out.2];first|rfl|simp,by go_num,HF⟩,by simp[intOf];omega⟩
  ·exact ac7
theorem Gq(x:aJ)(w:World):CB 176 #[.agg #[.string x.1,.int .i64 x.2.1,.int .i64 x.2.2.1,.int .i64 x.2.2.2.1,.bool x.2.2.2.2.1,.bool x.2.2.2.2.2.1,.int .i64 (au x).kind,.string (au x).name,.int .i64 (au x).n,.int .i64 (au x).d,.slice B m d,.string x.2.2.2.2.2.2.2.1,.int .i64 x.2.2.2.2.2.2.2.2]] (.string x.1) w:=by refine wid ?_;obtain⟨W1,hW1,F1⟩:=nam ((Fr.nil w).a w.heap.size [.string x.1,.int .i64 x.2.1,.int .i64 x.2.2.1,.int .i64 x.2.2.2.1,.bool x.2.2.2.2.1,.bool x.2.2.2.2.2.1,.int .i64 (au x).kind,.string (au x).name,.int .i64 (au x).n,.int .i64 (au x).d,.slice B m d,.string x.2.2.2.2.2.2.2.1,.int .i64 x.2.2.2.2.2.2.2.2] 89);refine op1 F1 ?_;intros;have F:=Hd F1;clear F1;refine ent func176 rfl ntmps176 ?_;gi_wp2;go_ret;exact⟨rfl,F.out.bl⟩
set_option maxHeartbeats 16000000 in
theorem Gs{l:List aJ}(hx:Sl aJ w M A n c l)(hn:n<=1000)(hnm:l.map (fun x=>x.1)=nm)(hsz:∀x,x∈l->x.1.size<=maxLen)(ht:Tab w)(hb:dB w b nm 0)(hM:b∈M):
 Calls prog 175 #[.map (some b),.slice A n c,.func (.func 176) #[] #[]] w fun e w'=>e=.returned (.tuple #[.bool (l.all fun x=>bZ x.1),.bool (dX nm n)])/\KB b w w'/\dB w' b nm n:=by
 refine wid ?_;have hlen:=hx.len;have H:=Hd hx;have HT:=Hd2 ht hb;have HL:=fB hnm hsz hM;have HB0:=Hd (show KB b w w/\dB w b nm 0 from⟨KB.refl _ _,hb⟩);have eg:=enters_of (P:=prog) func176 (by kernel_rfl) rfl;clear hx ht hb hnm hsz hM;refine ent func175 rfl ntmps175 ?_;gi_wp2;gi_loopw[6,7,15] (fun v6 v7 i wr=>∃k:Nat,k<=n/\v6=.bool ((l.take k).all fun x=>bZ x.1)/\v7=.bool (dX nm k)/\i=.int .i64 k/\Hid (KB b w wr/\dB wr b nm k)) (fun _ _ i _=>n-(intOf i).toNat);case atStart=>exact⟨0,Nat.zero_le _,by simp,rfl,rfl,HB0⟩
 case round=>
  obtain⟨k,hk,rfl,rfl,rfl,hS⟩:=hrel;obtain⟨f,hf⟩:=aC ((l.take k).all fun x=>bZ x.1);obtain⟨o1,ho⟩:=aC (dX nm k);rw[hf,ho];by_cases hlt:k<n
  ·obtain⟨x,hxk⟩:=dW l k (by omega);have hin:=List.mem_of_getElem? hxk;have hDD:nm.getD k ByteArray.empty=x.1:=by rw[<-HL.out.1];exact getD_map _ hxk
   have hall:=dZ (fun x:aJ=>bZ x.1) hxk;have kL:dX nm (k+1)=(dX nm k&&(gW nm x.1 k).isNone):=by rw[<-hDD];rfl
   rw[hf]at hall;rw[ho]at kL;obtain⟨bb,o,B,m,d,rfl,⟨h0,h1,h2,h3,h4,h5⟩,⟨h6,h7,h8,h9,h10⟩,⟨h11,h12⟩,-,-,-⟩:=(H.out.keep (hS.out.1.k.mono (fun q hq=>by rw[List.mem_singleton]at hq;subst hq;exact HL.out.2.2))).iw hxk;obtain⟨V1,hV1,dD,G1⟩:=fP (w:=wr) ((Fr.nil wr).a wr.heap.size [.string x.1,.int .i64 x.2.1,.int .i64 x.2.2.1,.int .i64 x.2.2.2.1,.bool x.2.2.2.2.1,.bool x.2.2.2.2.2.1,.int .i64 (au x).kind,.string (au x).name,.int .i64 (au x).n,.int .i64 (au x).d,.slice B m d,.string x.2.2.2.2.2.2.2.1,.int .i64 x.2.2.2.2.2.2.2.2] 89);refine op1 G1 ?_;intros;obtain⟨fx,hfx⟩:=aC (bZ x.1);obtain⟨hs,IV⟩:=aC (Go.Maps.has (rV nm k) (jT x.1));have hsn:(gW nm x.1 k).isNone= !hs:=by rw[<-IV,yS];cases gW nm x.1 k<;>rfl
   have HV:=Hd (show KB b w V1/\dB V1 b nm k from⟨hS.out.1.go dD (Nat.le_of_lt hS.out.2.lt),hS.out.2.go dD⟩);have HD:=Hd hDD;rw[hfx]at hall;rw[hsn]at kL;have EZ:=Hd (Cj x.1 (HL.out.2.1 x hin));have IW:=Hd2 (show(Lit.int .i64 (k:Int)).wf=true from Go.WalkArith.wf_i64 (by omega)) (show k<maxLen by unfold maxLen;omega);have QZ:=Hd IV;have XR:=Hd hfx;have HA:=Hd2 hall kL;clear hf ho hxk hin hDD hall kL G1 dD hfx IV hsn;cases f
   ·cases o1
    all_goals
     gi_wp2_with (first
      |(gi_at_mapUpdate;refine Go.wpListIn_mapUpdate_own _ rfl _ _ _ 207 rfl 9 3 sK underlying207 _ b k (rV nm k) rfl uT.out.2 IW.out.2 _ _ (jT x.1) rfl rfl EZ.out _ [] (Go.plainElem_int underlying3 IW.out.1) ?_;intro w5 hown5 hg5;have HF:=Hd (show KB b w w5/\dB w5 b nm (k+1)from⟨uT.out.1.grown hg5 uT.out.2.lt,by
         unfold dB rV;rw[HD.out];exact hown5⟩)
        clear hown5 hg5)
      |(gi_at_lookup;refine Go.wpListIn_lookup_own_ok_int _ rfl _ _ 207 rfl 9 3 .i64 sK underlying207 underlying3 (xw _) b k (rV nm k) rfl qx.out.2 _ (jT x.1) rfl EZ.out ?_;intro c hat hwc;rw[QZ.out];have uT:=Hd qx.out;clear hat hwc)
      |(refine Cl 176 (Gq x _) ?_;rintro e w3 ⟨rfl,hb3⟩;have qx:=Hd2 (HV.out.1.go hb3 (Nat.le_of_lt HV.out.2.lt)) (HV.out.2.go hb3);clear hb3)
      |(refine⟨trivial,?_⟩))
     exact⟨⟨k+1,by omega,by rw[HA.out.1];first|rfl|simp,by rw[HA.out.2];first|rfl|simp,by go_num,HF⟩,by simp[intOf];omega⟩
   cases o1
   all_goals
    gi_wp2_with (first
     |(gi_at_mapUpdate;refine Go.wpListIn_mapUpdate_own _ rfl _ _ _ 207 rfl 9 3 sK underlying207 _ b k (rV nm k) rfl uT.out.2 IW.out.2 _ _ (jT x.1) rfl rfl EZ.out _ [] (Go.plainElem_int underlying3 IW.out.1) ?_;intro w5 hown5 hg5;have HF:=Hd (show KB b w w5/\dB w5 b nm (k+1)from⟨uT.out.1.grown hg5 uT.out.2.lt,by
        unfold dB rV;rw[HD.out];exact hown5⟩)
       clear hown5 hg5)
     |(refine Cl 177 (qm x.1 _ (CG HT.out.1 HT.out.2 qx.out.1)) ?_;rintro e w4 ⟨rfl,hb4⟩;rw[XR.out];have uT:=Hd2 (qx.out.1.go hb4 (Nat.le_of_lt qx.out.2.lt)) (qx.out.2.go hb4);clear hb4)
     |(gi_at_lookup;refine Go.wpListIn_lookup_own_ok_int _ rfl _ _ 207 rfl 9 3 .i64 sK underlying207 underlying3 (xw _) b k (rV nm k) rfl qx.out.2 _ (jT x.1) rfl EZ.out ?_;intro c hat hwc;rw[QZ.out]
       skip
       clear hat hwc)
     |(refine Cl 176 (Gq x _) ?_;rintro e w3 ⟨rfl,hb3⟩;have qx:=Hd2 (HV.out.1.go hb3 (Nat.le_of_lt HV.out.2.lt)) (HV.out.2.go hb3);clear hb3)
     |fail)
    exact⟨⟨k+1,by omega,by rw[HA.out.1];first|rfl|simp,by rw[HA.out.2];first|rfl|simp,by go_num,HF⟩,by simp[intOf];omega⟩
  ·exact ac7
def aZ(w:World)(b:Nat)(v:Value):Prop:=w.cell? ⟨b,0,none⟩=some v/\w.frozen? ⟨b,0,none⟩=false
theorem aZ.lt(h:aZ w b v):b<w.heap.size:=World.block_lt_of_cell? w _ h.1
theorem aZ.block(h:aZ w b v)(hb:w'.heap[b]?=w.heap[b]?):aZ w' b v:=by
 unfold aZ World.cell? World.frozen? at*
 simp only[hb];exact h
theorem aZ.put(h:aZ w b v):aZ (w.setCell ⟨b,0,none⟩ u) b u:=⟨cZ h.1,by simp[go_sem,h.2]⟩
theorem KB.put(_h:aZ w b v):KB b w (w.setCell ⟨b,0,none⟩ u):=⟨(Keeps.refl _ _).setCell (p:=⟨b,0,none⟩) (.inl (by simp)) _,(Below.refl b w).setCell (p:=⟨b,0,none⟩) (Nat.le_refl _) _⟩
abbrev xA(nm:List ByteArray)(s:ByteArray):Nat:=(gW nm s nm.length).getD 0
abbrev xB(nm:List ByteArray)(s:ByteArray):Bool:= !(gW nm s nm.length).isSome
theorem xE{lb:Nat}{lo:Bool}(hm:dB w b nm n)(hn:nm.length=n)(hs:s.size<=maxLen)(hv:aZ w lb (.bool lo)):
 Calls prog 178 #[.map (some b),.string s,.pointer (some ⟨lb,0,none⟩)] w fun e w'=>e=.returned (.int .i64 (xA nm s:Nat))/\KB lb w w'/\aZ w' lb (.bool (lo||xB nm s)):=by
 refine wid ?_;have hv1:=hv.1;have hv2:=hv.2;have HV:=Hd hv;have HM:=Hd hm;have EZ:=Hd (Cj s hs);have HN:=Hd hn;obtain⟨g,IV⟩:=aC (Go.Maps.has (rV nm n) (jT s));have QZ:=Hd IV;have HLo:=Hd (show xB nm s= !g by rw[<-IV,yS,<-hn]);have aby:=Hd (Zz nm s n);clear hv hm IV hn;cases lo<;>cases g
 all_goals
  refine ent func178 rfl ntmps178 ?_
  gi_wp2_with (first
   |(gi_at_lookup;refine Go.wpListIn_lookup_own_ok_int _ rfl _ _ 207 rfl 9 3 .i64 sK underlying207 underlying3 (xw _) b n (rV nm n) rfl HM.out _ (jT s) rfl EZ.out ?_;intro c hat hwc;rw[QZ.out];have HC:=Hd (show c=((xA nm s:Nat):Int) by
      have h1:=aby.out;rw[hat]at h1;injection h1 with h1;injection h1 with _ h2;rw[h2,<-HN.out])
     clear hat hwc)
   |fail)
  go_ret;refine⟨by rw[HC.out];rfl,KB.put HV.out,?_⟩;rw[HLo.out];exact HV.out.put
end Go.Proofs.YtefnknhjlejalaaGreatDoor
