/- Lemmas and walks; no statement is proved here. -/
import Derived.Test.YtefnknhjlejalaaGreatDoorM07
set_option linter.unusedVariables false
set_option linter.unusedSimpArgs false
set_option maxRecDepth 20000
set_option maxHeartbeats 6000000
namespace Go.Proofs.YtefnknhjlejalaaGreatDoor
open Go.Proofs.Tryz Go.RowKit Go.Shelf
theorem aeK{p:Prop}(h:p:=by exact⟨v',W',r1,r2,(((Below.refl base W).alloc hb _).grown r3 (by simp;omega) (fun k hk=>(h.lt k hk).1)),r5⟩):p:=h
variable {M a:List Nat}{A B:Option Addr}{n c m d x y k:Nat}{w:World}{v:Value}
section
attribute [local go_sem] Oper.semAt_some
theorem D_(hM:b_ M w)(hx:Sl Int w M A n c (ints (bC x)))(hy:Sl Int w M B m d (ints (bC y)))(hn:n<=5000)(hm:m<=5000):
 Calls prog 95 #[.slice A n c,.slice B m d] w (DR w M (x*y)):=by
 refine wid ?_;have H:=Hd (hx.less (M':= []) (by simp));have G:=Hd (hy.less (M':= []) (by simp));have HM:=Hd hM;have l1:=hx.eu;have l2:=hy.eu;have g1:=aO x;have g2:=aO y;have hpr:val (bC x)*val (bC y)=x*y:=by rw[bI,bI]
 have hmk:=qR (t:=26) underlying26 (n+m) (by omega);obtain⟨W1,hW1⟩:=aC (w.alloc (.cells ((List.replicate (n+m) (0:Int)).map (Value.int .i64)).toArray 3));replace hmk:=hmk w;rw[hW1,show((n+m:Nat):Int)=(n:Int)+(m:Int)from by omega]at hmk;have r1:Row W1 w.heap.size (ints (List.replicate (n+m) 0)):=by rw[<-hW1,<-lH];exact Row.new _ w
 have b1:Below w.heap.size w W1:=by rw[<-hW1];exact bel
 have st:=yB.start (bC x) (bC y);rw[l1,l2]at st;generalize hax:bC x=a at*
 generalize hay:bC y=b at*
 have P:=Hd (And.intro l1 (And.intro l2 (And.intro g1 (And.intro g2 (And.intro hpr (And.intro st (And.intro r1 b1)))))));clear hx hy hM l1 l2 g1 g2 hpr st r1 b1 hW1 hax hay;refine ent func95 rfl ntmps95 ?_;gi_wp2;gi_loopw[6] (fun i wr=>∃(k:Nat) (R:List Nat),k<=n/\i=.int .i64 k/\Hid (yB a b k R)/\Hid (Row wr w.heap.size (ints R))/\Below w.heap.size w wr) (fun i _=>n-(intOf i).toNat);case atStart=>exact ae8
 case round=>
  obtain⟨i,R,hi,rfl,hI,hR,hb⟩:=hrel;by_cases hlt:i<n
  ·obtain⟨xi,Y9⟩:=dW a i (by rw[P.out.1];exact hlt);have L:=Hd Y9;have hxB:xi<BB:=P.out.2.2.1 _ (List.mem_of_getElem? Y9);clear Y9;gi_wp2;gi_loopw[7,8] (fun o q wr'=>∃(k over:Nat) (R':List Nat),k<=m/\o=.int .i64 over/\q=.int .i64 k/\Hid (Fz a b i xi k over R')/\Hid (Row wr' w.heap.size (ints R'))/\Below w.heap.size w wr') (fun _ q _=>m-(intOf q).toNat);case atStart=>exact⟨0,0,R,Nat.zero_le _,rfl,rfl,hI.out.row xi,hR.out,hb⟩
   case round=>
    obtain⟨k,over,R',hk,rfl,rfl,hI',hR',hb'⟩:=hrel;by_cases hkm:k<m
    ·obtain⟨b1,o1,xi',rfl,hc1,hxi,hl1,-⟩:=(H.out.keep (Keeps.of_below hb' [])).mG P.out.2.2.1 hlt;obtain rfl:xi=xi':=by have:=L.out;rw[hl1]at this;exact(Option.some.inj this).symm
     obtain⟨b2,o2,y2,rfl,hc2,hy2,hl2,-⟩:=(G.out.keep (Keeps.of_below hb' [])).mG P.out.2.2.2.1 hkm;have hRl:R'.length=n+m:=by rw[hI'.out.len,P.out.1,P.out.2.1]
     obtain⟨r,hr⟩:=dW R' (i+k) (by omega);obtain⟨s1,s2,s3,s4,s5,s6⟩:=hI'.out.small hxB hr hl2 P.out.2.2.2.1;have hc3:wr.cell? ⟨w.heap.size,i+k,none⟩=some (.int .i64 (r:Int)):=hR'.out.cell (jK hr);have hc4:wr.drew.cell? ⟨w.heap.size,i+k,none⟩=some (.int .i64 (r:Int)):=hc3;have hf4:wr.drew.frozen? ⟨w.heap.size,i+k,none⟩=false:=hR'.out.free _;have v1:=ah hc1;have v2:=ah hc2;have v3:=ah hc3;have hstep:=hI'.out.step hxB hr hl2 P.out.2.2.2.1;have hput:=hR'.out.put (i+k) (((r+xi*y2+over)%BB:Nat):Int);rw[ints_set]at hput;have HS:=Hd2 hstep hput;have e1:(r:Int)+(xi:Int)*(y2:Int)+(over:Int)=((r+xi*y2+over:Nat):Int):=by simp
     have q1:((r:Int)+(xi:Int)*(y2:Int)+(over:Int))/1073741824=(((r+xi*y2+over)/BB:Nat):Int):=by rw[e1,V6];exact(Int.natCast_ediv _ _).symm
     have q2:((r:Int)+(xi:Int)*(y2:Int)+(over:Int))%1073741824=(((r+xi*y2+over)%BB:Nat):Int):=by rw[e1,V6];exact(Int.natCast_emod _ _).symm
     have Q:=Hd2 q1 q2;have e0:((xi:Int)*(y2:Int))=((xi*y2:Nat):Int):=(Int.natCast_mul ..).symm;have k0:IntKind.i64.wrap ((i:Int)+(k:Int))=((i+k:Nat):Int):=by rw[IntKind.wrap_i64];omega
     have k1:IntKind.i64.wrap ((xi:Int)*(y2:Int))=((xi*y2:Nat):Int):=by rw[e0,IntKind.wrap_i64];omega
     have k2:IntKind.i64.wrap ((r:Int)+((xi*y2:Nat):Int))=((r+xi*y2:Nat):Int):=by rw[IntKind.wrap_i64];omega
     have k3:IntKind.i64.wrap (((r+xi*y2:Nat):Int)+(over:Int))=((r+xi*y2+over:Nat):Int):=by rw[IntKind.wrap_i64];omega
     have j1:(0:Int)<=(i:Int)+(k:Int):=by omega
     have j2:(i:Int)+(k:Int)<(n:Int)+(m:Int):=by omega
     have j3:((i:Int)+(k:Int)).toNat=i+k:=by omega
     clear hstep hput hr hl2 e0 hRl hl1 hc1 hc2 hc3 e1 q1 q2;gi_wp2;refine ak [] (List.range 19) (by kernel_rfl) (by kernel_rfl) ?_;simp only[show List.range 19= [0,1,2,3,4,5,6,7,8,9,10,11,12,13,14,15,16,17,18]from rfl];refine eH ?_;refine aK ?_;refine lit ?_;gi_wp2;rw[Q.out.1,Q.out.2];exact⟨⟨k+1,_,_,by omega,rfl,by go_num,HS.out.1,HS.out.2.drew,(hb'.setCell (p:=⟨w.heap.size,i+k,none⟩) (Nat.le_refl _) _).drew⟩,by simp[intOf];omega⟩
    ·have Y6:k=m:=by omega
     subst Y6;have hI2:=hI'.out;have hlo:=g_ hI2.lt;have hz:R'[i+k]?=some 0:=hI2.top _ (by rw[P.out.2.1];exact Nat.le_refl _) (by rw[hI2.len,P.out.1,P.out.2.1];omega);have hdone:=hI2;rw[<-P.out.2.1]at hdone;replace hdone:=hdone.done L.out;rw[P.out.2.1]at hdone;have hc3:wr.cell? ⟨w.heap.size,i+k,none⟩=some (.int .i64 0):=hR'.out.cell (jK hz);have hf3:wr.frozen? ⟨w.heap.size,i+k,none⟩=false:=hR'.out.free _;have hput:=hR'.out.put (i+k) (over:Int);rw[ints_set]at hput;have HS:=Hd2 hdone hput;have k0:IntKind.i64.wrap ((i:Int)+(k:Int))=((i+k:Nat):Int):=by rw[IntKind.wrap_i64];omega
     clear hdone hput hI2 hz;gi_wp2;exact aen
  ·have hin:i=n:=by omega
   subst hin;have hfin:=hI.out;rw[<-P.out.1]at hfin;have hv:=hfin.done;have hg:=hfin.good;have hl:=hfin.len;rw[P.out.2.2.2.2.1]at hv;rw[P.out.1,P.out.2.1]at hl;have Nw:w.heap.size∉M:=fun e=>by have:=HM.out _ e;omega
   have hsl:=hR.out.sl Nw (n:=i+m) (by rw[jm];exact hl) (by omega) (fU hg);have HSL:=fB hsl hg hv;have hsz:=hb.size;clear hfin hv hg hl Nw hsl;gi_wp2_with (refine Cl 94 (jy _ _ _ R _ HSL.out.1 HSL.out.2.1) ?_;rintro e w2 ⟨q,rfl,hq,ht,hb2⟩;have HT:=fB ht hq hb2;clear ht hq hb2)
   exact aem
theorem yC{W:World}{base:Nat}{xs:List Int}(h:W.ownsRow base 3 1 v n (xs.map (Value.int .i64)))(hb:base<=W.heap.size)(hn:n<=1000000000)(x:Int):
 ∃v' W',(Builtin.append_ #[26,26] 26 #[v,.slice (some ⟨W.heap.size,0,none⟩) 1 1]).run prog (W.alloc (.cells #[.int .i64 x] 3))=.ok v' W'/\W'.ownsRow base 3 1 v' (n+1) ((xs++ [x]).map (Value.int .i64))/\Below base W W'/\∃gg cc,v'=.slice (some ⟨gg,0,none⟩) (n+1) cc:=by
 obtain⟨v',W',r1,r2,r3,r4,r5⟩:=NI (h.alloc (.cells #[.int .i64 x] 3)) (by simp;omega) hn W.heap.size x (by simp[go_sem]);exact aeK
theorem IL(hM:b_ M w)(hx:Sl Int w M A n c (ints (bC x)))(hy:Sl Int w M B m d (ints (bC y)))(hn:n<=5000)(hm:m<=5000):
 Calls prog 121 #[.slice A n c,.slice B m d] w fun e w'=>∃O k cO l,e=.returned (.slice O k cO)/\Sl Int w' M O k cO (ints l)/\Good l/\val l=x+y/\Below w.heap.size w w':=by
 refine wid ?_;have H:=Hd (hx.less (M':= []) (by simp));have G:=Hd (hy.less (M':= []) (by simp));have HM:=Hd hM;have l1:=hx.eu;have l2:=hy.eu;have g1:=aO x;have g2:=aO y;have v1:=bI x;have v2:=bI y;generalize hax:bC x=a at*
 generalize hay:bC y=b at*
 have P:=Zw l1 l2 g1 g2 v1 v2;clear hx hy hM l1 l2 g1 g2 v1 v2 hax hay;refine ent func121 rfl ntmps121 ?_;gi_wp2;gi_loopw[5,6,7] (fun v o i wr=>∃(k over:Nat) (out:List Nat),k<=max n m+1/\(over=0\/k<=max n m)/\o=.int .i64 over/\i=.int .i64 k/\Hid (BM a b out k over)/\Hid (wr.ownsRow w.heap.size 3 1 v k ((ints out).map (Value.int .i64)))/\Below w.heap.size w wr) (fun _ _ i _=>max n m+2-(intOf i).toNat);case atStart=>exact⟨0,0, [],by omega,.inl rfl,rfl,rfl,EK a b,World.ownsRow_lit (base:=w.heap.size) (size:=1) (e:=3) w #[] 0 (Nat.le_refl _) (by simp[maxLen]) rfl,by exact bel⟩
 case round=>
  obtain⟨i,over,out,hi,ho,rfl,rfl,hI,hO,hb⟩:=hrel;have q1:=g_ (fF P.out.2.2.1 i);have q2:=g_ (fF P.out.2.2.2.1 i);have q3:over<=1:=hI.out.2.2.2;by_cases hC:i<n\/i<m\/0<over
  ·have him:i<=max n m:=by omega
   have hstep:=Iy P.out.2.2.1 P.out.2.2.2.1 hI.out;obtain⟨da,hda⟩:=aC (aB a i);obtain⟨db,hdb⟩:=aC (aB b i);have hov:(da+db+over)/BB=0\/i+1<=max n m:=by
    rcases Nat.lt_or_ge i (max n m)with h|h;·exact .inr h
    left;have e1:da=0:=by rw[<-hda];unfold aB List.getD;rw[List.getElem?_eq_none (by rw[P.out.1];omega)];rfl
    have e2:db=0:=by rw[<-hdb];unfold aB List.getD;rw[List.getElem?_eq_none (by rw[P.out.2.1];omega)];rfl
    rw[e1,e2];exact Nat.div_eq_of_lt (Nat.lt_of_le_of_lt (show 0+0+over<=1 by omega) rE)
   rw[hda,hdb]at hstep;rw[hda]at q1;rw[hdb]at q2;have e1:(da:Int)+(db:Int)+(over:Int)=((da+db+over:Nat):Int):=by simp
   have k1:IntKind.i64.wrap ((da:Int)+(db:Int))=(da:Int)+(db:Int):=by rw[IntKind.wrap_i64];omega
   have k2:IntKind.i64.wrap ((da:Int)+(db:Int)+(over:Int))=(da:Int)+(db:Int)+(over:Int):=by rw[IntKind.wrap_i64];omega
   have w1:((da:Int)+(db:Int)+(over:Int))/1073741824=(((da+db+over)/BB:Nat):Int):=by rw[e1,V6];exact(Int.natCast_ediv _ _).symm
   have w2:((da:Int)+(db:Int)+(over:Int))%1073741824=(((da+db+over)%BB:Nat):Int):=by rw[e1,V6];exact(Int.natCast_emod _ _).symm
   obtain⟨v',W',r1,r2,r3,gg,cc,rfl⟩:=yC hO.out hb.size (by omega) (((da:Int)+(db:Int)+(over:Int))%1073741824);rw[w2,show ints out++ [(((da+db+over)%BB:Nat):Int)]=ints (out++ [(da+db+over)%BB]) by simp[ints]]at r2;have JR:=Hd r1;have HR:=fB r2 (hb.trans r3) hstep;have HD:=Hd2 hda hdb;have W1:=Hd w1;have HOV:=Hd hov;have HA:=Hd (H.out.keep (Keeps.of_below hb []));have HB:=Hd (G.out.keep (Keeps.of_below hb []));clear r1 r2 r3 hstep e1 w1 w2 hda hdb hov hO;rcases(show i<n\/(¬i<n/\i<m)\/(¬i<n/\¬i<m/\0<over) by omega)with c1|⟨c1,c2⟩|⟨c1,c2,c3⟩
   all_goals(
    clear hC
    gi_wp2_with (first
     |(gi_at_builtin;refine wpListIn_plain rfl fun K hK'=>?_;refine aI _ _ _ rfl rfl rfl JR.out (hK' _ _ ?_);clear hK' K)
     |(refine⟨trivial,?_⟩;gi_at_call 123;have g:=H1.out;clear g;refine Cn (QD B m d b i _ HB.out P.out.2.2.2.1) ?_;rintro e w2 ⟨rfl,rfl⟩;rw[HD.out.2])
     |(refine Cl 123 (QD A n c a i _ HA.out P.out.2.2.1) ?_;rintro e w2 ⟨rfl,rfl⟩;rw[HD.out.1];have H1:=Hd True.intro)
     |fail)
    rw[W1.out];exact⟨⟨i+1,_,_,by omega,by have:=HOV.out;omega,rfl,by go_num,HR.out.2.2,HR.out.1,HR.out.2.1⟩,by simp[intOf];omega⟩)
  ·obtain rfl:over=0:=by omega
   have c1:¬i<n:=by omega
   have c2:¬i<m:=by omega
   obtain⟨f1,f2⟩:=NV hI.out (by rw[P.out.1];omega) (by rw[P.out.2.1];omega);obtain⟨O,cO,rfl,hsl⟩:=Sl.BO hO.out (fU f2) (by omega) HM.out;have HF:=fB hsl f1 f2;clear f1 f2 hsl hO hC hI;gi_wp2;go_ret;exact⟨O,i,cO,rfl,out,HF.out.1,HF.out.2.2,by rw[HF.out.2.1,P.out.2.2.2.2.1,P.out.2.2.2.2.2],hb⟩
theorem DR.BJ{wr w2:World}{O:Option Addr}{cO q v:Nat}{l:List Nat}(hs:Sl Int wr M O k cO (ints l))(hq:q<=k)(ht:l.take q=bC (val l))(hv:val l=v)(hb:Below w.heap.size w wr)(hb2:Below wr.heap.size wr w2):
 DR w M v (.returned (.slice O q cO)) w2:=by
 have h:=(hs.go hb2).nY hq;rw[eG,ht,hv]at h;exact⟨O,q,cO,rfl,h,hb.trans (hb2.mono hb.size)⟩
theorem SX(hM:b_ M w)(hx:Sl Int w M A n c (ints (bC x)))(hy:Sl Int w M B m d (ints (bC y)))(hn:n<=5000)(hyx:y<=x):
 Calls prog 96 #[.slice A n c,.slice B m d] w (DR w M (x-y)):=by
 refine wid ?_;have H:=Hd (hx.less (M':= []) (by simp));have G:=Hd (hy.less (M':= []) (by simp));have HM:=Hd hM;have l1:=hx.eu;have l2:=hy.eu;have g1:=aO x;have g2:=aO y;have v1:=bI x;have v2:=bI y;have hmn:m<=n:=by rw[<-l1,<-l2];exact kR hyx
 generalize hax:bC x=a at*
 generalize hay:bC y=b at*
 have P:=Zw l1 l2 g1 g2 v1 v2;clear hx hy hM l1 l2 g1 g2 v1 v2 hax hay;refine ent func96 rfl ntmps96 ?_;gi_wp2;gi_loopw[5,6,7] (fun v o i wr=>∃(k:Nat) (owed:Int) (out:List Nat),k<=n/\0<=owed/\owed<=1/\o=.int .i64 owed/\i=.int .i64 k/\Hid (Lu a b out k owed)/\Hid (wr.ownsRow w.heap.size 3 1 v k ((ints out).map (Value.int .i64)))/\Below w.heap.size w wr) (fun _ _ i _=>n-(intOf i).toNat);case atStart=>exact⟨0,0, [],by omega,by omega,by omega,rfl,rfl,OL a b,World.ownsRow_lit (base:=w.heap.size) (size:=1) (e:=3) w #[] 0 (Nat.le_refl _) (by simp[maxLen]) rfl,by exact bel⟩
 case round=>
  obtain⟨i,owed,out,hi,ho1,ho2,rfl,rfl,hI,hO,hb⟩:=hrel;by_cases hlt:i<n
  ·obtain⟨b1,o1,da,rfl,hc1,hda,-,hdd⟩:=(H.out.keep (Keeps.of_below hb [])).mG P.out.2.2.1 hlt;have q2:=g_ (fF P.out.2.2.2.1 i);obtain⟨db,hdb⟩:=aC (aB b i);rw[hdb]at q2;have k1:IntKind.i64.wrap ((da:Int)-(db:Int))=(da:Int)-(db:Int):=by rw[IntKind.wrap_i64];omega
   have k2:IntKind.i64.wrap ((da:Int)-(db:Int)-owed)=(da:Int)-(db:Int)-owed:=by rw[IntKind.wrap_i64];omega
   have k3:IntKind.i64.wrap ((da:Int)-(db:Int)-owed+1073741824)=(da:Int)-(db:Int)-owed+1073741824:=by rw[IntKind.wrap_i64];omega
   have hO2:wr.drew.ownsRow w.heap.size 3 1 u5 i ((ints out).map (Value.int .i64)):=hO.out;have HB:=Hd (G.out.keep (Keeps.of_below hb.drew []));have HDB:=Hd hdb;have v1:=ah hc1;by_cases hneg:(da:Int)-(db:Int)-owed<0
   ·obtain⟨k,hk⟩:∃k:Nat,(k:Int)=(da:Int)-(db:Int)-owed+1073741824:=⟨((da:Int)-(db:Int)-owed+1073741824).toNat,by omega⟩;have hstep:=Hw P.out.2.2.1 P.out.2.2.2.1 hI.out (show(da:Int)-(db:Int)-owed=_ by rw[hdd,hdb]) (k:=k) (by rw[if_pos hneg,hk];rfl);rw[if_pos hneg]at hstep;obtain⟨v',W',r1,r2,r3,gg,cc,rfl⟩:=yC hO2 hb.drew.size (by omega) ((da:Int)-(db:Int)-owed+1073741824);rw[<-hk,show ints out++ [(k:Int)]=ints (out++ [k]) by simp[ints]]at r2;have JR:=Hd r1;have HR:=fB r2 (hb.drew.trans r3) hstep;clear r1 r2 r3 hstep hdb hO hO2 hdd hk hc1;gi_wp2;refine ak [] [0,1,2,3,4,5,8,6,7,9,10] (by kernel_rfl) (by kernel_rfl) ?_;refine eH ?_;refine aH fun K hK=>aA rfl rfl wy fun K' hK'=>?_;gi_wp2;refine Cm (QD B m d b i _ HB.out P.out.2.2.2.1) ?_;rintro e w2 ⟨rfl,rfl⟩;rw[HDB.out];refine hK' _ _ ⟨?_,hK _ _ ?_⟩;clear hK' K' hK K;·exact Keeps.refl _ _
    refine lit ?_;refine eH ?_;refine aK ?_;refine lit ?_;gi_wp2_with (gi_at_builtin;refine wpListIn_plain rfl fun K hK'=>?_;refine aI _ _ _ rfl rfl rfl JR.out (hK' _ _ ?_);clear hK' K)
    exact⟨⟨i+1,1,_,by omega,by omega,by omega,rfl,by go_num,HR.out.2.2,HR.out.1,HR.out.2.1⟩,by simp[intOf];omega⟩
   obtain⟨k,hk⟩:∃k:Nat,(k:Int)=(da:Int)-(db:Int)-owed:=⟨((da:Int)-(db:Int)-owed).toNat,by omega⟩;have hstep:=Hw P.out.2.2.1 P.out.2.2.2.1 hI.out (show(da:Int)-(db:Int)-owed=_ by rw[hdd,hdb]) (k:=k) (by rw[if_neg hneg,hk]);rw[if_neg hneg]at hstep;obtain⟨v',W',r1,r2,r3,gg,cc,rfl⟩:=yC hO2 hb.drew.size (by omega) ((da:Int)-(db:Int)-owed);rw[<-hk,show ints out++ [(k:Int)]=ints (out++ [k]) by simp[ints]]at r2;have JR:=Hd r1;have HR:=fB r2 (hb.drew.trans r3) hstep;have hq:decide ((da:Int)-(db:Int)-owed<0)=false:=decide_eq_false hneg;clear r1 r2 r3 hstep hdb hO hO2 hdd hk hc1 hneg k3;gi_wp2;refine ak [] [0,1,2,3,4,5,8,6,7,9,10] (by kernel_rfl) (by kernel_rfl) ?_;refine eH ?_;refine aH fun K hK=>aA rfl rfl wy fun K' hK'=>?_;gi_wp2;refine Cm (QD B m d b i _ HB.out P.out.2.2.2.1) ?_;rintro e w2 ⟨rfl,rfl⟩;rw[HDB.out];refine hK' _ _ ⟨?_,hK _ _ ?_⟩;clear hK' K' hK K;·exact Keeps.refl _ _
   refine lit ?_;refine eH ?_;refine aK ?_;refine lit ?_;gi_wp2_with (gi_at_builtin;refine wpListIn_plain rfl fun K hK'=>?_;refine aI _ _ _ rfl rfl rfl JR.out (hK' _ _ ?_);clear hK' K)
   exact⟨⟨i+1,0,_,by omega,by omega,by omega,rfl,by go_num,HR.out.2.2,HR.out.1,HR.out.2.1⟩,by simp[intOf];omega⟩
  ·have hin:i=n:=by omega
   subst hin;have hI2:=hI.out;rw[<-P.out.1]at hI2;obtain⟨f1,f2⟩:=VY hI2 (by rw[P.out.1,P.out.2.1];exact hmn) (by rw[P.out.2.2.2.2.1,P.out.2.2.2.2.2];exact hyx);rw[P.out.2.2.2.2.1,P.out.2.2.2.2.2]at f1;obtain⟨O,cO,rfl,hsl⟩:=Sl.BO hO.out (fU f2) (by omega) HM.out;have HF:=fB hsl f1 f2;clear f1 f2 hsl hO hI hI2;gi_wp2_with (refine Cl 94 (jy _ _ _ out _ HF.out.1 HF.out.2.2) ?_;rintro e w2 ⟨q,rfl,hq,ht,hb2⟩;have HT:=fB ht hq hb2;clear ht hq hb2)
   go_ret;exact DR.BJ HF.out.1 HT.out.2.1 HT.out.1 HF.out.2.1 hb HT.out.2.2
theorem LX{a b:Addr}{u:Value}(hab:b.block≠a.block)(h:w.cell? b=some v):(w.setCell a u).cell? b=some v:=(World.cell?_of_block (w:=w) (Below.heap_setCell w a u b.block hab)).trans h
theorem Keeps.putObj{w':World}(h:Keeps M w w'){l:Nat}(hl:l∈M)(o:Obj):Keeps M w (w'.putObj l o):=⟨by rw[World.putObj_size];exact h.size,fun k hk hm=>(World.putObj_heap_other (by rintro rfl;exact hm hl)).trans (h.block k hk hm)⟩
theorem Jv{r:Nat}(hr:r<=1073741823)(hx:x<=1073741823):bits .or .i64 ((r:Int)*1073741824) (x:Int)=(r:Int)*1073741824+(x:Int):=bits_join .i64 63 (by decide) (fun n h0 h1=>by rw[IntKind.wrap_i64];omega) 30 _ _ (by omega) (by omega) (by omega) (by omega) (by omega) (by omega)
theorem SY(B:Nat)(b:Nat)(l:List Int):jC B (fun W=>Row W b l):=by
 intro A A' row hs hg hr;unfold Row at*
 refine(hg.block b (Array.getElem?_eq_some_iff.1 hs).1 (fun e=>?_)).trans hs;obtain⟨_,o,ho,hc⟩:=hr b e.symm;rw[hs]at ho;cases ho;cases hc
structure Y_(w0:World)(S rb n d:Nat)(a:List Nat)(k:Nat)(W:World):Prop where
 ex:∃q r,LD a q d k r/\Row W rb (ints q)/\W.cell? ⟨S+2,0,none⟩=some (.int .i64 (r:Int))
 free:W.frozen? ⟨S+2,0,none⟩=false
 qc:W.cell? ⟨S+1,0,none⟩=some (.slice (some ⟨rb,0,none⟩) n n)
 qf:W.frozen? ⟨S+1,0,none⟩=false
 dc:W.cell? ⟨S,0,none⟩=some (.int .i64 (d:Int))
 below:Below S w0 W
theorem Y_.Jc{B:Nat}{w0:World}{S rb:Nat}(h1:S<=w0.heap.size)(h2:S<=B):jC B (Y_ w0 S rb n d a k):=by have:=(Bz (B:=B) fun q=>Bz fun r=>((kX B (LD a q d k r)).and ((SY B rb (ints q)).and (nO B ⟨S+2,0,none⟩ (.int .i64 ((r:Nat):Int)))))).and ((Bz fun v=>jV B ⟨S+2,0,none⟩ v).and ((jV B ⟨S+1,0,none⟩ (.slice (some ⟨rb,0,none⟩) n n)).and ((nO B ⟨S,0,none⟩ (.int .i64 (d:Int))).and (kY (n:=S) (w:=w0) h1 h2))));intro W W' row hs hg hr;obtain⟨q,r,e1,e2,e3⟩:=hs.ex;obtain⟨x1,⟨v,x2,x3⟩,⟨x4,x5⟩,x6,x7⟩:=this W W' row ⟨⟨q,r,e1,e2,e3⟩,⟨_,e3,hs.free⟩,⟨hs.qc,hs.qf⟩,hs.dc,hs.below⟩ hg hr;exact⟨x1,x3,x4,x5,x6,x7⟩
theorem S9(hl:a.length=n)(hd:0<d):LD a (List.replicate n 0) d n 0:=by
 refine⟨?_,hd,by simp[hl],?_⟩;·rw[List.drop_of_length_le (by omega),List.drop_of_length_le (by simp)];simp[val]
 intro x hx;rw[List.eq_of_mem_replicate hx];exact eX
theorem short_any(hM:b_ M w)(hx:Sl Int w M A n c (ints (bC x)))(hn:n<=5000)(hd:0<d)(hd2:d<=1073741824):
 Calls prog 112 #[.slice A n c,.int .i64 (d:Int)] w fun e w'=>∃O k cO,e=.returned (.tuple #[.slice O k cO,.int .i64 ((x%d:Nat):Int)])/\Sl Int w' M O k cO (ints (bC (x/d)))/\Below w.heap.size w w':=by
 refine wid ?_;have H:=Hd (hx.less (M':= []) (by simp));have HM:=Hd hM;have l1:=hx.eu;have g1:=aO x;have v1:=bI x;generalize hax:bC x=a at*
 have P:=fB l1 g1 v1;have st:=S9 l1 hd;clear hx hM l1 g1 v1 hax;obtain⟨W1,hW1⟩:=aC (((w.alloc (.cells #[.int .i64 (d:Int)] 3)).alloc (.cells #[.slice none 0 0] 125)).alloc (.cells #[.int .i64 0] 3));have hmk:=qR (t:=125) underlying125 n (by omega) W1;obtain⟨W2,hW2⟩:=aC (W1.alloc (.cells ((List.replicate n (0:Int)).map (Value.int .i64)).toArray 3));have s1:W1.heap.size=w.heap.size+3:=by rw[<-hW1];simp
 have r2:Row W2 (w.heap.size+3) (ints (List.replicate n 0)):=by rw[<-hW2,<-lH,<-s1];exact Row.new n W1
 rw[hW2,s1]at hmk;have b2:Below w.heap.size w W2:=by rw[<-hW2,<-hW1];exact bel
 have s2:W2.heap.size=w.heap.size+4:=by rw[<-hW2];simp[s1]
 have c0:W2.cell? ⟨w.heap.size,0,none⟩=some (.int .i64 (d:Int)):=by rw[<-hW2,<-hW1];simp[go_sem]
 have c1:W2.cell? ⟨w.heap.size+1,0,none⟩=some (.slice none 0 0):=by rw[<-hW2,<-hW1];simp[go_sem]
 have f1:W2.frozen? ⟨w.heap.size+1,0,none⟩=false:=by rw[<-hW2,<-hW1];simp[go_sem]
 have c2:W2.cell? ⟨w.heap.size+2,0,none⟩=some (.int .i64 0):=by rw[<-hW2,<-hW1];simp[go_sem]
 have f2:W2.frozen? ⟨w.heap.size+2,0,none⟩=false:=by rw[<-hW2,<-hW1];simp[go_sem]
 have F1:=Hd (And.intro r2 (And.intro b2 (And.intro s2 (And.intro c0 (And.intro c1 (And.intro f1 (And.intro c2 f2)))))));clear r2 b2 c0 c2 f2 hW2;refine sH func112 rfl ntmps112 ?_;gi_wp2_with (refine Cl 160 (LM A n c _) ?_;rintro e w3 ⟨rfl,hw3⟩;have HW3:=Hd hw3;clear hw3)
 clear hmk hW1 s1 c1 f1 s2;obtain⟨r2,b2,s2,c0,c1,f1,c2,f2⟩:=F1.out;have hw3:=HW3.out;have b3:Below w.heap.size w w3:=by rw[<-hw3];exact(b2.setCell (p:=⟨w.heap.size+1,0,none⟩) (by simp) _).alloc (by simp;omega) _
 have s3:w3.heap.size=w.heap.size+5:=by rw[<-hw3];simp[s2]
 have kk:∀b,b≠w.heap.size+1->b<w.heap.size+4->w3.heap[b]?=W2.heap[b]?:=by intro b hb hl;rw[<-hw3];exact(Below.heap_alloc _ _ b (by simp;omega)).trans (Below.heap_setCell _ _ _ b hb)
 have c3:w3.cell? ⟨w.heap.size+4,0,none⟩=some (.slice A n c):=by rw[<-hw3,<-s2];simp[go_sem]
 have hsh:Y_ w w.heap.size (w.heap.size+3) n d a n w3:=by
  refine⟨⟨_,0,st,?_,?_⟩,?_,?_,?_,?_,b3⟩;·unfold Row;rw[kk _ (by omega) (by omega)];exact r2
  ·rw[World.cell?_of_block (w:=W2) (kk _ (by simp) (by simp))];exact c2
  ·rw[World.frozen?_of_block (w:=W2) (kk _ (by simp) (by simp))];exact f2
  ·rw[<-hw3];exact Iz _ (cZ c1)
  ·rw[<-hw3];exact IB _ (cZ c1) (by simp[f1])
  rw[World.cell?_of_block (w:=W2) (kk _ (by simp) (by simp))];exact c0
 have SH:=Hd hsh;clear hw3 kk hsh r2 b2 c0 c1 f1 c2 f2 st HW3 F1
 refine m_ (M:= [w.heap.size+2,w.heap.size+3]) (w0:=w3) rfl rfl trivial (enters_of func208 (by kernel_rfl) rfl)
  (zX (b1:=w.heap.size+4) (N:= []) (l:=a) c3 (by simp) (((H.out.more (b:=w.heap.size+3) (by omega)).more (b:=w.heap.size+2) (by omega)).keep (Keeps.of_below b3 _)) P.out.2.1) (Keeps.refl _ _) ?hM ?hps
  (fun rest W=>∃k:Nat,(k<=n/\rest=oH a k)/\Y_ w w.heap.size (w.heap.size+3) n d a k W)
  (fun _ _=>False)
  (fun _=>Bz fun k=>(kX _ _).and (Y_.Jc (Nat.le_refl _) (by omega)))
  (fun _=>kX _ _)
  ⟨n,⟨Nat.le_refl _,rfl⟩,SH.out⟩ ?round ?done ?stop
 case hM=>intro q hq;simp at hq;omega
 case hps=>intro q hq;exact D8 hq
 case stop=>rintro D j W hD hf;exact hf.elim
 case round=>
  rintro l s q rest W-hl hls hsW hrec hkW ⟨k,⟨hk,hrest⟩,hS⟩;obtain⟨j,rfl⟩:∃j,k=j+1:=⟨k-1,by
   rcases Nat.eq_zero_or_pos k with rfl|h;·cases hrest
   omega⟩
  rw[lI]at hrest;injection hrest with hq hr';subst hq;have hjn:j<n:=by omega
  obtain⟨xd,hxd⟩:=aC (aB a j);have hx1:=g_ (fF P.out.2.1 j);rw[hxd]at hx1 |-;have L:=Hd2 hr' hxd;have HS:=Hd hS;clear hr' hS hxd;gi_wp2;refine⟨bn.refl _ _ _,Y_ w w.heap.size (w.heap.size+3) n d a (j+1),Y_.Jc (Nat.le_refl _) (by omega),HS.out,?_⟩;rintro W'' hxl hsz hS2;obtain⟨⟨qs,r,hD,hR,hrc⟩,hrf,hqc,hqf,hdc,hbW⟩:=hS2;have hr1:r<=1073741823:=by have:=hD.2.1;omega
  have k1:IntKind.i64.wrap ((r:Int)*1073741824)=(r:Int)*1073741824:=by rw[IntKind.wrap_i64];omega
  have k2:=Jv hr1 hx1;gi_wp2;obtain⟨W4,I4⟩:=aC (W''.setCell ⟨w.heap.size+1+1,0,none⟩ (.int .i64 ((r:Int)*1073741824+(xd:Int))));rw[I4];have hne:∀b,b≠w.heap.size+2->W4.heap[b]?=W''.heap[b]?:=fun b hb=>by rw[<-I4];exact Below.heap_setCell _ _ _ b hb
  have x0:W4.cell? ⟨w.heap.size+1+1,0,none⟩=some (.int .i64 ((r:Int)*1073741824+(xd:Int))):=by rw[<-I4];exact cZ hrc
  have x1:W4.frozen? ⟨w.heap.size+1+1,0,none⟩=false:=by rw[<-I4];simp;exact hrf
  have x2:W4.cell? ⟨w.heap.size+1,0,none⟩=some (.slice (some ⟨w.heap.size+3,0,none⟩) n n):=by rw[World.cell?_of_block (w:=W'') (hne _ (by simp))];exact hqc
  have x3:W4.frozen? ⟨w.heap.size+1,0,none⟩=false:=by rw[World.frozen?_of_block (w:=W'') (hne _ (by simp))];exact hqf
  have x4:W4.cell? ⟨w.heap.size,0,none⟩=some (.int .i64 (d:Int)):=by rw[World.cell?_of_block (w:=W'') (hne _ (by simp))];exact hdc
  have x5:Row W4 (w.heap.size+3) (ints qs):=by unfold Row;rw[hne _ (by omega)];exact hR
  have x6:Below w.heap.size w W4:=by rw[<-I4];exact hbW.setCell (p:=⟨w.heap.size+1+1,0,none⟩) (by simp;omega) _
  have hst:=LG P.out.2.1 hD (by rw[P.out.1];exact hjn);rw[L.out.2]at hst;obtain⟨EL,hold⟩:=dW qs j (by rw[hD.2.2.1,P.out.1];exact hjn);have y0:W4.drew.cell? ⟨w.heap.size+3,j,none⟩=some (.int .i64 (EL:Int)):=x5.cell (jK hold);have y1:W4.drew.frozen? ⟨w.heap.size+3,j,none⟩=false:=x5.free j;have e1:(r:Int)*1073741824+(xd:Int)=((r*BB+xd:Nat):Int):=by rw[Int.natCast_add,Int.natCast_mul];rfl
  have z0:¬d=0:=by omega
  have z1:((r:Int)*1073741824+(xd:Int)).tdiv (d:Int)=(((r*BB+xd)/d:Nat):Int):=by rw[e1];exact(Int.ofNat_tdiv _ _).symm
  have z2:((r:Int)*1073741824+(xd:Int)).tmod (d:Int)=(((r*BB+xd)%d:Nat):Int):=by rw[e1];exact(Int.ofNat_tmod _ _).symm
  have z4:=g_ hst.2;have hput:=x5.put j (((r*BB+xd)/d:Nat):Int);rw[ints_set]at hput;generalize (r*BB+xd)/d=qd at*;generalize (r*BB+xd)%d=rd at*
  have z3:IntKind.i64.wrap (qd:Int)=(qd:Int):=by rw[IntKind.wrap_i64];omega
  have u0:=aF (Mr:= [w.heap.size+3]) (by simp) x0;have u2:=aF (Mr:= [w.heap.size+3]) (by simp) x2;have u4:=aF (Mr:= [w.heap.size+3]) (by simp) x4;have y3:W4.drew.cell? ⟨w.heap.size+1+1,0,none⟩=some (.int .i64 ((r:Int)*1073741824+(xd:Int))):=x0;have y4:W4.drew.frozen? ⟨w.heap.size+1+1,0,none⟩=false:=x1;have k4:Keeps [w.heap.size+2,w.heap.size+3] W'' W4:=by rw[<-I4];exact(Keeps.refl _ _).setCell (p:=⟨w.heap.size+1+1,0,none⟩) (.inl (by simp)) _
  have y5:(W4.setCell ⟨w.heap.size+3,j,none⟩ (.int .i64 (qd:Int))).drew.cell? ⟨w.heap.size+1+1,0,none⟩=some (.int .i64 ((r:Int)*1073741824+(xd:Int))):=(World.cell?_of_block (w:=W4) (Below.heap_setCell W4 _ _ _ (by simp))).trans x0;have y6:(W4.setCell ⟨w.heap.size+3,j,none⟩ (.int .i64 (qd:Int))).drew.frozen? ⟨w.heap.size+1+1,0,none⟩=false:=(World.frozen?_of_block (w:=W4) (Below.heap_setCell W4 _ _ _ (by simp))).trans x1;have F:=Hd (And.intro k4 (And.intro hsz (And.intro hst (And.intro hput (And.intro x2 (And.intro x3 (And.intro x4 x6)))))));clear k4 hsz hst hput x0 x1 x2 x3 x4 x5 x6 hne I4 e1 hold hD hR hqc hqf hdc hbW hrc hrf;refine aP [w.heap.size+3] 10 (by kernel_rfl) (by kernel_rfl) ?_;refine ay 0 ?_;refine ay 1 ?_;refine ay 2 ?_;refine ay 3 ?_;refine ay 4 ?_;refine ay 5 ?_;refine ay 6 ?_;refine ay 7 ?_;refine ay 8 ?_;refine eU 9 fun K hK=>?_;gi_wp2;refine⟨(((Keeps.refl [w.heap.size+3] W4).setCell (p:=⟨w.heap.size+3,j,none⟩) (.inl (by simp)) _).drew).Nq,?_⟩;refine FN 1 (by kernel_rfl) rfl ?_;refine jW fun K hK K' hK'=>?_;gi_wp2;refine tail_nil _ ?_;simp only[cu];gi_wp2;obtain⟨f0,f1,f2,f3,f4,f5,f6,f7⟩:=F.out;have kk:Keeps [w.heap.size+2,w.heap.size+3] W4 ((W4.setCell ⟨w.heap.size+3,j,none⟩ (.int .i64 (qd:Int))).setCell ⟨w.heap.size+1+1,0,none⟩ (.int .i64 (rd:Int))).drew:=(((Keeps.refl _ W4).setCell (p:=⟨w.heap.size+3,j,none⟩) (.inl (by simp)) _).setCell (p:=⟨w.heap.size+1+1,0,none⟩) (.inl (by simp)) _).drew;refine⟨(f0.trans kk).to (by rw[f1];exact hsW),j,⟨by omega,L.out.1⟩,⟨_,rd,f2.1,((f3.uw (by omega) 0 _).drew),cZ y5⟩,by simpa using y6,kk.cell (by simp) f4,?_,kk.cell (by simp) f6,?_⟩;·exact(World.frozen?_of_block (w:=W4) (kk.block _ (World.block_lt_of_cell? W4 _ f4) (by simp))).trans f5
  ·exact((f7.setCell (p:=⟨w.heap.size+3,j,none⟩) (by simp) _).setCell (p:=⟨w.heap.size+1+1,0,none⟩) (by simp;omega) _).drew
 case done=>
  rintro D W hD ⟨k,⟨hk,hrest⟩,hS⟩ hdef;obtain rfl:=Ib hrest;obtain⟨⟨qs,r,hD2,hR,hrc⟩,hrf,hqc,hqf,hdc,hbW⟩:=hS;obtain⟨e1,e2⟩:=QB hD2;rw[P.out.2.2]at e1 e2;have hr1:r<=1073741823:=by have:=hD2.2.1;omega
  have hl:(ints qs).length=n:=by rw[jm,hD2.2.2.1,P.out.1]
  have Nw:w.heap.size+3∉D::(w.heap.size+1)::(w.heap.size+1+1)::M:=fun e=>by
   simp only[List.mem_cons]at e;rcases e with e|e|e|e;·omega
   ·omega
   ·omega
   have:=HM.out _ e;omega
  have hsl:=hR.sl Nw hl (by omega) (fU hD2.2.2.2);have FF:=Hd (And.intro hsl (And.intro hD2.2.2.2 (And.intro e1 (And.intro e2 (And.intro hbW (And.intro hR.lt (And.intro hqc (And.intro hqf (And.intro hrc hrf)))))))));have v2:=aF (Mr:= [w.heap.size+1]) (by simp) hrc;have v1:W.drew.cell? ⟨w.heap.size+1,0,none⟩=some (.slice (some ⟨w.heap.size+3,0,none⟩) n n):=hqc;clear hD2 hR e1 e2 hl Nw hsl hdc hrest hqf hrf;gi_wp2;refine aP [w.heap.size+1] 4 (by kernel_rfl) (by kernel_rfl) ?_;refine ay 2 ?_;refine eU 0 fun K hK=>?_;gi_wp2;refine⟨Keeps.refl _ _,?_⟩;refine eU 1 fun K hK=>?_;gi_wp2;refine Cm (jw _ _ _ qs W.drew (FF.out.1.keep (Keeps.refl _ W).drew) FF.out.2.1) ?_;rintro e w4 ⟨q,rfl,hq,ht,hb4⟩;have HT:=fB ht hq hb4;have hq':=hq;clear ht hq;refine hK _ _ ⟨?_,?_⟩;clear hK K;·exact Keeps.of_below hb4 _
  refine lit ?_;have t1:w4.cell? ⟨w.heap.size+1,0,none⟩=some (.slice (some ⟨w.heap.size+3,0,none⟩) n n):=(Keeps.of_below hb4 []).cell (by simp) hqc;have t2:w4.cell? ⟨w.heap.size+1+1,0,none⟩=some (.int .i64 (r:Int)):=(Keeps.of_below hb4 []).cell (by simp) hrc;have t3:w4.frozen? ⟨w.heap.size+1,0,none⟩=false:=(World.frozen?_of_block (w:=W.drew) (hb4.block _ (World.block_lt_of_cell? W _ hqc))).trans FF.out.2.2.2.2.2.2.2.1;have t4:w4.frozen? ⟨w.heap.size+1+1,0,none⟩=false:=(World.frozen?_of_block (w:=W.drew) (hb4.block _ (World.block_lt_of_cell? W _ hrc))).trans FF.out.2.2.2.2.2.2.2.2.2;have t5:w4.heap[D]?=some (.deferred (some [])):=(hb4.block D (Array.getElem?_eq_some_iff.1 hdef).1).trans hdef;have hb5:Below w.heap.size w w4:=hbW.drew.trans (hb4.mono hbW.size);have hs5:=((FF.out.1.keep (Keeps.refl _ W).drew).keep (Keeps.of_below hb4 _)).nY hq';have HB5:=Hd2 hb5 hs5;clear hb4 hb5 v1 v2 hqc hrc hs5;refine eU 3 fun K hK=>?_;gi_wp2;refine⟨(Keeps.refl _ _).setCell (p:=⟨w.heap.size+1,0,none⟩) (.inl (by simp)) _,?_⟩;refine FN 1 (by kernel_rfl) rfl ?_;refine jW fun K hK K' hK'=>?_;gi_wp2;refine tail_nil _ ?_;simp only[cu];gi_wp2;refine⟨by simp,.inl ⟨_,_,rfl,run_takeDeferred (fA (fA t5)),?_⟩⟩;have m1:=qg (W:=(w4.setCell ⟨w.heap.size+1,0,none⟩ (.slice (some ⟨w.heap.size+3,0,none⟩) q n)).setCell ⟨w.heap.size+1+1,0,none⟩ (.int .i64 (r:Int))) (D:=D) (LX (b:=⟨w.heap.size+1,0,none⟩) (by simp) (cZ t1)) (fA (fA t5));have m2:=qg (W:=(w4.setCell ⟨w.heap.size+1,0,none⟩ (.slice (some ⟨w.heap.size+3,0,none⟩) q n)).setCell ⟨w.heap.size+1+1,0,none⟩ (.int .i64 (r:Int))) (D:=D) (cZ (LX (b:=⟨w.heap.size+1+1,0,none⟩) (by simp) t2)) (fA (fA t5));refine⟨.tuple #[.slice (some ⟨w.heap.size+3,0,none⟩) q n,.int .i64 (r:Int)],by simp[results,go_sem,m1,m2],?_⟩;have hs6:=HB5.out.2;rw[eG,HT.out.1,FF.out.2.2.1]at hs6;have bB:Below w.heap.size w (((w4.setCell ⟨w.heap.size+1,0,none⟩ (.slice (some ⟨w.heap.size+3,0,none⟩) q n)).setCell ⟨w.heap.size+1+1,0,none⟩ (.int .i64 (r:Int))).putObj D (.deferred none)):=nV ((HB5.out.1.setCell (p:=⟨w.heap.size+1,0,none⟩) (by simp) _).setCell (p:=⟨w.heap.size+1+1,0,none⟩) (by simp;omega) _) (by omega) (Nat.le_refl _);have kF:Keeps (D::(w.heap.size+1)::(w.heap.size+1+1)::M) w4 (((w4.setCell ⟨w.heap.size+1,0,none⟩ (.slice (some ⟨w.heap.size+3,0,none⟩) q n)).setCell ⟨w.heap.size+1+1,0,none⟩ (.int .i64 (r:Int))).putObj D (.deferred none)):=(((Keeps.refl _ _).setCell (p:=⟨w.heap.size+1,0,none⟩) (.inl (by simp)) _).setCell (p:=⟨w.heap.size+1+1,0,none⟩) (.inl (by simp)) _).putObj (by simp) _;exact⟨_,q,n,by rw[FF.out.2.2.2.1],(hs6.keep kF).less (fun k hk=>by simp[hk]),bB⟩
end
end Go.Proofs.YtefnknhjlejalaaGreatDoor
