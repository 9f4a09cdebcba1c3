/- Lemmas. -/
import Derived.Test.YtfdmnogfflcllaaGreatDoorM07
set_option linter.unusedVariables false
set_option linter.unusedSimpArgs false
set_option maxRecDepth 100000
set_option maxHeartbeats 20000000
namespace Go.Proofs.YtfdmnogfflcllaaGreatDoor
open Go.Proofs.Tryz Go.RowKit Go.Shelf
variable {M a:List Nat}{A B:Option Addr}{n c m d x y k:Nat}{w:World}{v:Value}
section
attribute [local go_sem] cK
theorem D_(hM:b_ M w)(hx:Sl Int w M A n c (ints (bC x)))(hy:Sl Int w M B m d (ints (bC y)))(hn:n<=5000)(hm:m<=5000):
 Calls prog 193 #[.slice A n c,.slice B m d] w (DR w M (x*y)):=by
 refine wid ?_;have H:=Hd (hx.less (M':= []) oO);have G:=Hd (hy.less (M':= []) oO);have HM:=Hd hM;have l1:=hx.eu;have l2:=hy.eu;have g1:=aO x;have g2:=aO y;have af:val (bC x)*val (bC y)=x*y:=by rw[bI,bI]
 have Z:=qR (t:=26) underlying26 (n+m) oE;obtain⟨W1,N⟩:=aC (w.alloc (.cells ((List.replicate (n+m) (0:Int)).map (Value.int .i64)).toArray 3));replace Z:=Z w;rw[N,show((n+m:Nat):Int)=(n:Int)+(m:Int)from by omega]at Z;have r1:Row W1 w.heap.size (ints (List.replicate (n+m) 0)):=by rw[<-N,<-lH];exact Row.new _ w
 have b1:Below w w W1:=by rw[<-N];exact bel
 have st:=yB.start (bC x) (bC y);rw[l1,l2]at st;generalize hax:bC x=a at*
 generalize hay:bC y=b at*
 have P:=Hd (And.intro l1 (And.intro l2 (And.intro g1 (And.intro g2 (And.intro af (And.intro st (And.intro r1 b1)))))));clear hx hy hM l1 l2 g1 g2 af st r1 b1 N hax hay;refine ent func193 rfl ntmps193 ?_;gi_wp2;gi_loopw[6] (fun i wr=>∃(k:Nat) (R:List Nat),k<=n/\i=.int .i64 k/\Hid (yB a b k R)/\Hid (Row wr w.heap.size (ints R))/\Below w w wr) (fun i _=>n-(intOf i).toNat);case atStart=>exact YT
 case round=>
  obtain⟨i,R,hi,rfl,hI,hR,hb⟩:=hrel;by_cases ae:i<n
  ·obtain⟨g,U⟩:=dW a i (by rw[P.a];exact ae);have L:=Hd U;have al:g<BB:=P.c _ (aR U);clear U;gi_wp2;gi_loopw[7,8] (fun o q am=>∃(k j:Nat) (s:List Nat),k<=m/\o=.int .i64 j/\q=.int .i64 k/\Hid (Fz a b i g k j s)/\Hid (Row am w.heap.size (ints s))/\Below w w am) (fun _ q _=>m-(intOf q).toNat);case atStart=>exact⟨0,0,R,bO _,rfl,rfl,hI.out.row g,hR.out,hb⟩
   case round=>
    obtain⟨k,j,s,hk,rfl,rfl,K,z,O⟩:=hrel;by_cases aq:k<m
    ·obtain⟨b1,o1,au,rfl,ab,ay,ad,-⟩:=(H.out.keep (a_ O [])).mG P.c ae;obtain rfl:g=au:=by have:=L.out;rw[ad]at this;exact(eW this).symm
     obtain⟨b2,o2,h,rfl,ac,az,Y,-⟩:=(G.out.keep (a_ O [])).mG P.d aq;have ao:s.length=n+m:=by rw[K.out.len,P.a,P.b]
     obtain⟨r,T⟩:=dW s (i+k) oE;obtain⟨s1,s2,s3,s4,s5,s6⟩:=K.out.small al T Y P.d;have S:wr.cell? ⟨w,i+k,none⟩=some (.int .i64 (r:Int)):=z.out.cell (jK T);have av:wr.drew.cell? ⟨w,i+k,none⟩=some (.int .i64 (r:Int)):=S;have ax:wr.drew.frozen? ⟨w,i+k,none⟩=false:=z.out.free _;have v1:=ah ab;have v2:=ah ac;have v3:=ah S;have aj:=K.out.step al T Y P.d;have l:=z.out.put (i+k) (((r+g*h+j)%BB:Nat):Int);rw[ints_set]at l;have D:=Hd2 aj l;have V:(r:Int)+(g:Int)*(h:Int)+(j:Int)=((r+g*h+j:Nat):Int):=oO;have q1:((r:Int)+(g:Int)*(h:Int)+(j:Int))/1073741824=(((r+g*h+j)/BB:Nat):Int):=by rw[V,BBi];exact(Int.natCast_ediv _ _).symm
     have q2:((r:Int)+(g:Int)*(h:Int)+(j:Int))%1073741824=(((r+g*h+j)%BB:Nat):Int):=by rw[V,BBi];exact(Int.natCast_emod _ _).symm
     have Q:=Hd2 q1 q2;have e0:((g:Int)*(h:Int))=((g*h:Nat):Int):=(eJ ..).symm;have k0:IntKind.i64.wrap ((i:Int)+(k:Int))=((i+k:Nat):Int):=by rw[bR];omega
     have k1:IntKind.i64.wrap ((g:Int)*(h:Int))=((g*h:Nat):Int):=by rw[e0,bR];omega
     have k2:IntKind.i64.wrap ((r:Int)+((g*h:Nat):Int))=((r+g*h:Nat):Int):=by rw[bR];omega
     have k3:IntKind.i64.wrap (((r+g*h:Nat):Int)+(j:Int))=((r+g*h+j:Nat):Int):=by rw[bR];omega
     have j1:(0:Int)<=(i:Int)+(k:Int):=oE;have j2:(i:Int)+(k:Int)<(n:Int)+(m:Int):=oE;have j3:((i:Int)+(k:Int)).toNat=i+k:=oE;clear aj l T Y e0 ao ad ab ac S V q1 q2;gi_wp2;refine ak [] (List.range 19) oF oF ?_;simp only[show List.range 19= [0,1,2,3,4,5,6,7,8,9,10,11,12,13,14,15,16,17,18]from rfl];refine eH ?_;refine aK ?_;refine lit ?_;gi_wp2;rw[Q.a,Q.u];exact⟨⟨k+1,_,_,oE,rfl,by go_num,D.a,D.u.drew,(O.setCell (p:=⟨w,i+k,none⟩) pc _).drew⟩,by simp[intOf];omega⟩
    ·have an:k=m:=oE;subst an;have E:=K.out;have hlo:=g_ E.lt;have hz:s[i+k]?=some 0:=E.top _ (by rw[P.b];exact bh _) (by rw[E.len,P.a,P.b];omega);have C:=E;rw[<-P.b]at C;replace C:=C.done L.out;rw[P.b]at C;have S:wr.cell? ⟨w,i+k,none⟩=some (.int .i64 0):=z.out.cell (jK hz);have aw:wr.frozen? ⟨w,i+k,none⟩=false:=z.out.free _;have l:=z.out.put (i+k) (j:Int);rw[ints_set]at l;have D:=Hd2 C l;have k0:IntKind.i64.wrap ((i:Int)+(k:Int))=((i+k:Nat):Int):=by rw[bR];omega
     clear C l E hz;gi_wp2;exact⟨⟨i+1,_,oE,by go_num,D.a,D.u,O.setCell (p:=⟨w,i+k,none⟩) pc _⟩,by simp[intOf];omega⟩
  ·have ap:i=n:=oE;subst ap;have F:=hI.out;rw[<-P.a]at F;have hv:=F.done;have W:=F.good;have X:=F.len;rw[P.e]at hv;rw[P.a,P.b]at X;have Nw:w.heap.size∉M:=fun e=>by have:=HM.out _ e;omega
   have ai:=hR.out.sl Nw (n:=i+m) (by rw[jm];exact X) oE (fU W);have I:=fB ai W hv;have ar:=hb.size;clear F hv W X Nw ai;gi_wp2_with (refine Cl 192 (jy _ _ _ R _ I.a I.b) ?_;rintro e w2 ⟨q,rfl,hq,ht,aa⟩;have J:=fB ht hq aa;clear ht hq aa)
   go_ret;have ag:=(I.a.go J.v).nY J.b;rw[eG,J.a,I.v]at ag;exact⟨_,q,i+m,rfl,ag,hb.trans (J.v.mono ar)⟩
theorem yC{W:World}{base:Nat}{xs:List Int}(h:W.ownsRow base 3 1 v n (xs.map (Value.int .i64)))(hb:base<=W.heap.size)(hn:n<=1000000000)(x:Int):
 ∃v' W',(Builtin.append_ #[26,26] 26 #[v,.slice (some ⟨W,0,none⟩) 1 1]).run prog (W.alloc (.cells #[.int .i64 x] 3))=.ok v' W'/\W'.ownsRow base 3 1 v' (n+1) ((xs++ [x]).map (Value.int .i64))/\Below base W W'/\∃gg cc,v'=.slice (some ⟨gg,0,none⟩) (n+1) cc:=by
 obtain⟨v',W',b,V,f,i,g⟩:=NI (h.alloc (.cells #[.int .i64 x] 3)) oS hn W.heap.size x oX;exact⟨v',W',b,V,(((bw base W).alloc hb _).grown f oS (fun k e=>(h.lt k e).1)),g⟩
theorem DR.BJ{wr w2:World}{O:Option Addr}{cO q v:Nat}{l:List Nat}(hs:Sl Int wr M O k cO (ints l))(hq:q<=k)(ht:l.take q=bC (val l))(hv:val l=v)(hb:Below w w wr)(hb2:Below wr wr w2):
 DR w M v (.returned (.slice O q cO)) w2:=by
 have h:=(hs.go hb2).nY hq;rw[eG,ht,hv]at h;exact⟨O,q,cO,rfl,h,hb.trans (hb2.mono hb.size)⟩
theorem SX(hM:b_ M w)(hx:Sl Int w M A n c (ints (bC x)))(hy:Sl Int w M B m d (ints (bC y)))(hn:n<=5000)(hyx:y<=x):
 Calls prog 194 #[.slice A n c,.slice B m d] w (DR w M (x-y)):=by
 refine wid ?_;have H:=Hd (hx.less (M':= []) oO);have G:=Hd (hy.less (M':= []) oO);have HM:=Hd hM;have T:=hx.eu;have U:=hy.eu;have X:=aO x;have Y:=aO y;have v1:=bI x;have v2:=bI y;have ad:m<=n:=by rw[<-T,<-U];exact kR hyx
 generalize hax:bC x=a at*
 generalize hay:bC y=b at*
 have P:=Zw T U X Y v1 v2;clear hx hy hM T U X Y v1 v2 hax hay;refine ent func194 rfl ntmps194 ?_;gi_wp2;gi_loopw[5,6,7] (fun v o i wr=>∃(k:Nat) (f:Int) (out:List Nat),k<=n/\0<=f/\f<=1/\o=.int .i64 f/\i=.int .i64 k/\Hid (Lu a b out k f)/\Hid (wr.ownsRow w 3 1 v k ((ints out).map (Value.int .i64)))/\Below w w wr) (fun _ _ i _=>n-(intOf i).toNat);case atStart=>exact⟨0,0, [],oE,oE,oE,rfl,rfl,OL a b,k_ (base:=w.heap.size) (size:=1) (e:=3) w #[] 0 pc (by simp[maxLen]) rfl,by exact bel⟩
 case round=>
  obtain⟨i,f,out,hi,af,ag,rfl,rfl,E,z,hb⟩:=hrel;by_cases ac:i<n
  ·obtain⟨b1,o1,g,rfl,R,ae,-,I⟩:=(H.out.keep (a_ hb [])).mG P.c ac;have q2:=g_ (fF P.d i);obtain⟨h,s⟩:=aC (aB b i);rw[s]at q2;have k1:IntKind.i64.wrap ((g:Int)-(h:Int))=(g:Int)-(h:Int):=by rw[bR];omega
   have k2:IntKind.i64.wrap ((g:Int)-(h:Int)-f)=(g:Int)-(h:Int)-f:=by rw[bR];omega
   have k3:IntKind.i64.wrap ((g:Int)-(h:Int)-f+1073741824)=(g:Int)-(h:Int)-f+1073741824:=by rw[bR];omega
   have F:wr.drew.ownsRow w 3 1 u5 i ((ints out).map (Value.int .i64)):=z.out;have HB:=Hd (G.out.keep (a_ hb.drew []));have W:=Hd s;have v1:=ah R;by_cases t:(g:Int)-(h:Int)-f<0
   ·obtain⟨k,p⟩:∃k:Nat,(k:Int)=(g:Int)-(h:Int)-f+1073741824:=⟨((g:Int)-(h:Int)-f+1073741824).toNat,oE⟩;have r:=Hw P.c P.d E.out (show(g:Int)-(h:Int)-f=_ by rw[I,s]) (k:=k) (by rw[if_pos t,p];rfl);rw[if_pos t]at r;obtain⟨v',W',C,V,D,gg,cc,rfl⟩:=yC F hb.drew.size oE ((g:Int)-(h:Int)-f+1073741824);rw[<-p,show ints out++ [(k:Int)]=ints (out++ [k]) by simp[ints]]at V;have L:=Hd C;have l:=fB V (hb.drew.trans D) r;clear C V D r s z F I p R;gi_wp2;refine ak [] [0,1,2,3,4,5,8,6,7,9,10] oF oF ?_;refine eH ?_;refine aH fun K u=>aA rfl rfl wy fun N j=>?_;gi_wp2;refine Cm (QD B m d b i _ HB.out P.d) ?_;rintro e w2 ⟨rfl,rfl⟩;rw[W.out];refine j _ _ ⟨?_,u _ _ ?_⟩;clear j N u K;·exact cF _ _
    refine lit ?_;refine eH ?_;refine aK ?_;refine lit ?_;gi_wp2_with (gi_at_builtin;refine cY rfl fun K j=>?_;refine aI _ _ _ rfl rfl rfl L.out (j _ _ ?_);clear j K)
    exact⟨⟨i+1,1,_,oE,oE,oE,rfl,by go_num,l.v,l.a,l.b⟩,by simp[intOf];omega⟩
   obtain⟨k,p⟩:∃k:Nat,(k:Int)=(g:Int)-(h:Int)-f:=⟨((g:Int)-(h:Int)-f).toNat,oE⟩;have r:=Hw P.c P.d E.out (show(g:Int)-(h:Int)-f=_ by rw[I,s]) (k:=k) (by rw[if_neg t,p]);rw[if_neg t]at r;obtain⟨v',W',C,V,D,gg,cc,rfl⟩:=yC F hb.drew.size oE ((g:Int)-(h:Int)-f);rw[<-p,show ints out++ [(k:Int)]=ints (out++ [k]) by simp[ints]]at V;have L:=Hd C;have l:=fB V (hb.drew.trans D) r;have S:decide ((g:Int)-(h:Int)-f<0)=false:=cE t;clear C V D r s z F I p R t k3;gi_wp2;refine ak [] [0,1,2,3,4,5,8,6,7,9,10] oF oF ?_;refine eH ?_;refine aH fun K u=>aA rfl rfl wy fun N j=>?_;gi_wp2;refine Cm (QD B m d b i _ HB.out P.d) ?_;rintro e w2 ⟨rfl,rfl⟩;rw[W.out];refine j _ _ ⟨?_,u _ _ ?_⟩;clear j N u K;·exact cF _ _
   refine lit ?_;refine eH ?_;refine aK ?_;refine lit ?_;gi_wp2_with (gi_at_builtin;refine cY rfl fun K j=>?_;refine aI _ _ _ rfl rfl rfl L.out (j _ _ ?_);clear j K)
   exact⟨⟨i+1,0,_,oE,oE,oE,rfl,by go_num,l.v,l.a,l.b⟩,by simp[intOf];omega⟩
  ·have ab:i=n:=oE;subst ab;have Q:=E.out;rw[<-P.a]at Q;obtain⟨f1,f2⟩:=VY Q (by rw[P.a,P.b];exact ad) (by rw[P.e,P.y];exact hyx);rw[P.e,P.y]at f1;obtain⟨O,cO,rfl,aa⟩:=Sl.BO z.out (fU f2) oE HM.out;have HF:=fB aa f1 f2;clear f1 f2 aa z E Q;gi_wp2_with (refine Cl 192 (jy _ _ _ out _ HF.a HF.v) ?_;rintro e w2 ⟨q,rfl,S,ht,Z⟩;have J:=fB ht S Z;clear ht S Z)
   go_ret;exact DR.BJ HF.a J.b J.a HF.b hb J.v
theorem LX{a b:Addr}{u:Value}(hab:b.block≠a.block)(h:w.cell? b=some v):(w.setCell a u).cell? b=some v:=(eR (w:=w) (i_ w a u b.block hab)).trans h
theorem Keeps.putObj{w':World}(h:Keeps M w w'){l:Nat}(hl:l∈M)(o:Obj):Keeps M w (w'.putObj l o):=⟨by rw[jt];exact h.size,fun k hk hm=>(fu (by rintro rfl;exact hm hl)).trans (h.block k hk hm)⟩
theorem Jv{r:Nat}(hr:r<=1073741823)(hx:x<=1073741823):bits .or .i64 ((r:Int)*1073741824) (x:Int)=(r:Int)*1073741824+(x:Int):=bits_join .i64 63 oR (fun n h0 h1=>by rw[bR];omega) 30 _ _ oE oE oE oE oE oE
theorem SY(B:Nat)(b:Nat)(l:List Int):jC B (fun W=>Row W b l):=by
 intro A h i hs O g;unfold Row at*
 refine(O.block b (cS.1 hs).1 (fun e=>?_)).trans hs;obtain⟨_,o,f,I⟩:=g b e.symm;rw[hs]at f;cases f;cases I
structure ShI(w0:World)(S rb n d:Nat)(a:List Nat)(k:Nat)(W:World):Prop where
 ex:∃q r,LD a q d k r/\Row W rb (ints q)/\W.cell? ⟨S+2,0,none⟩=some (.int .i64 (r:Int))
 free:W.frozen? ⟨S+2,0,none⟩=false
 qc:W.cell? ⟨S+1,0,none⟩=some (.slice (some ⟨rb,0,none⟩) n n)
 qf:W.frozen? ⟨S+1,0,none⟩=false
 dc:W.cell? ⟨S,0,none⟩=some (.int .i64 (d:Int))
 below:Below S w0 W
theorem ShI.Jc{B:Nat}{w0:World}{S rb:Nat}(h1:S<=w0.heap.size)(h2:S<=B):jC B (ShI w0 S rb n d a k):=by have:=(Bz (B:=B) fun q=>Bz fun r=>((kX B (LD a q d k r)).and ((SY B rb (ints q)).and (nO B ⟨S+2,0,none⟩ (.int .i64 ((r:Nat):Int)))))).and ((Bz fun v=>jV B ⟨S+2,0,none⟩ v).and ((jV B ⟨S+1,0,none⟩ (.slice (some ⟨rb,0,none⟩) n n)).and ((nO B ⟨S,0,none⟩ (.int .i64 (d:Int))).and (kY (n:=S) (w:=w0) h1 h2))));intro W e g hs O f;obtain⟨q,r,G,N,b⟩:=hs.ex;obtain⟨h,⟨v,j,i⟩,⟨x4,x5⟩,x6,x7⟩:=this W e g ⟨⟨q,r,G,N,b⟩,⟨_,b,hs.free⟩,⟨hs.qc,hs.qf⟩,hs.dc,hs.below⟩ O f;exact⟨h,i,x4,x5,x6,x7⟩
theorem aeb(hl:a.length=n)(hd:0<d):LD a (List.replicate n 0) d n 0:=by
 refine⟨?_,hd,by simp[hl],?_⟩;·rw[cA oE,cA oO];simp[val]
 intro x hx;rw[ld hx];exact eX
theorem short_any(hM:b_ M w)(hx:Sl Int w M A n c (ints (bC x)))(hn:n<=5000)(hd:0<d)(hd2:d<=1073741824):
 Calls prog 227 #[.slice A n c,.int .i64 (d:Int)] w fun e w'=>∃O k cO,e=.returned (.tuple #[.slice O k cO,.int .i64 ((x%d:Nat):Int)])/\Sl Int w' M O k cO (ints (bC (x/d)))/\Below w w w':=by
 refine wid ?_;have H:=Hd (hx.less (M':= []) oO);have HM:=Hd hM;have l1:=hx.eu;have g1:=aO x;have v1:=bI x;generalize hax:bC x=a at*
 have P:=fB l1 g1 v1;have st:=aeb l1 hd;clear hx hM l1 g1 v1 hax;obtain⟨W1,E⟩:=aC (((w.alloc (.cells #[.int .i64 (d:Int)] 3)).alloc (.cells #[.slice none 0 0] 190)).alloc (.cells #[.int .i64 0] 3));have am:=qR (t:=190) underlying190 n oE W1;obtain⟨g,i⟩:=aC (W1.alloc (.cells ((List.replicate n (0:Int)).map (Value.int .i64)).toArray 3));have s1:W1.heap.size=w.heap.size+3:=by rw[<-E];simp
 have r2:Row g (w.heap.size+3) (ints (List.replicate n 0)):=by rw[<-i,<-lH,<-s1];exact Row.new n W1
 rw[i,s1]at am;have b2:Below w w g:=by rw[<-i,<-E];exact bel
 have s2:g.heap.size=w.heap.size+4:=by rw[<-i];simp[s1]
 have c0:g.cell? ⟨w,0,none⟩=some (.int .i64 (d:Int)):=by rw[<-i,<-E];simp[go_sem]
 have V:g.cell? ⟨w+1,0,none⟩=some (.slice none 0 0):=by rw[<-i,<-E];simp[go_sem]
 have f1:g.frozen? ⟨w+1,0,none⟩=false:=by rw[<-i,<-E];simp[go_sem]
 have c2:g.cell? ⟨w+2,0,none⟩=some (.int .i64 0):=by rw[<-i,<-E];simp[go_sem]
 have f2:g.frozen? ⟨w+2,0,none⟩=false:=by rw[<-i,<-E];simp[go_sem]
 have F1:=Hd (And.intro r2 (And.intro b2 (And.intro s2 (And.intro c0 (And.intro V (And.intro f1 (And.intro c2 f2)))))));clear r2 b2 c0 c2 f2 i;refine sH func227 rfl ntmps227 ?_;gi_wp2_with (refine Cl 142 (LM A n c _) ?_;rintro e w3 ⟨rfl,o⟩;have aj:=Hd o;clear o)
 clear am E s1 V f1 s2;obtain⟨r2,b2,s2,c0,V,f1,c2,f2⟩:=F1.out;have o:=aj.out;have b3:Below w w w3:=by rw[<-o];exact(b2.setCell (p:=⟨w+1,0,none⟩) oO _).alloc oS _
 have s3:w3.heap.size=w.heap.size+5:=by rw[<-o];simp[s2]
 have z:∀b,b≠w.heap.size+1->b<w.heap.size+4->w3.heap[b]?=g.heap[b]?:=by intro b hb hl;rw[<-o];exact(mh _ _ b oS).trans (i_ _ _ _ b hb)
 have c3:w3.cell? ⟨w+4,0,none⟩=some (.slice A n c):=by rw[<-o,<-s2];simp[go_sem]
 have aq:ShI w w.heap.size (w.heap.size+3) n d a n w3:=by
  refine⟨⟨_,0,st,?_,?_⟩,?_,?_,?_,?_,b3⟩;·unfold Row;rw[z _ oE oE];exact r2
  ·rw[eR (w:=g) (z _ oO oO)];exact c2
  ·rw[iA (w:=g) (z _ oO oO)];exact f2
  ·rw[<-o];exact Iz _ (cZ V)
  ·rw[<-o];exact IB _ (cZ V) (by simp[f1])
  rw[eR (w:=g) (z _ oO oO)];exact c0
 have SH:=Hd aq;clear o z aq r2 b2 c0 V f1 c2 f2 st aj F1
 refine m_ (M:= [w.heap.size+2,w.heap.size+3]) (w0:=w3) rfl rfl trivial (eK func229 oF rfl)
  (zX (b1:=w.heap.size+4) (N:= []) (l:=a) c3 oO (((H.out.more (b:=w+3) oE).more (b:=w+2) oE).keep (a_ b3 _)) P.b) (cF _ _) ?hM ?hps
  (fun aw W=>∃k:Nat,(k<=n/\aw=oH a k)/\ShI w w.heap.size (w.heap.size+3) n d a k W)
  (fun _ _=>False)
  (fun _=>Bz fun k=>(kX _ _).and (ShI.Jc pc oE))
  (fun _=>kX _ _)
  ⟨n,⟨bh _,rfl⟩,SH.out⟩ ?round ?done ?stop
 case hM=>intro q C;simp at C;omega
 case hps=>intro q C;exact D8 C
 case stop=>rintro D j W X hf;exact hf.elim
 case round=>
  rintro l s q aw W-hl aG aD aH aE ⟨k,⟨hk,ab⟩,hS⟩;obtain⟨j,rfl⟩:∃j,k=j+1:=⟨k-1,by
   rcases eh k with rfl|h;·cases ab
   omega⟩
  rw[lI]at ab;injection ab with C hr';subst C;have al:j<n:=oE;obtain⟨xd,ah⟩:=aC (aB a j);have av:=g_ (fF P.b j);rw[ah]at av |-;have L:=Hd2 hr' ah;have HS:=Hd hS;clear hr' hS ah;gi_wp2;refine⟨bn.refl _ _ _,ShI w w.heap.size (w.heap.size+3) n d a (j+1),ShI.Jc pc oE,HS.out,?_⟩;rintro U aI au az;obtain⟨⟨qs,r,X,Z,I⟩,ae,G,ad,hdc,aa⟩:=az;have ao:r<=1073741823:=by have:=X.2.1;omega
  have k1:IntKind.i64.wrap ((r:Int)*1073741824)=(r:Int)*1073741824:=by rw[bR];omega
  have k2:=Jv ao av;gi_wp2;obtain⟨f,Q⟩:=aC (U.setCell ⟨w+1+1,0,none⟩ (.int .i64 ((r:Int)*1073741824+(xd:Int))));rw[Q];have ac:∀b,b≠w.heap.size+2->f.heap[b]?=U.heap[b]?:=fun b hb=>by rw[<-Q];exact i_ _ _ _ b hb
  have x0:f.cell? ⟨w+1+1,0,none⟩=some (.int .i64 ((r:Int)*1073741824+(xd:Int))):=by rw[<-Q];exact cZ I
  have x1:f.frozen? ⟨w+1+1,0,none⟩=false:=by rw[<-Q];simp;exact ae
  have x2:f.cell? ⟨w+1,0,none⟩=some (.slice (some ⟨w+3,0,none⟩) n n):=by rw[eR (w:=U) (ac _ oO)];exact G
  have x3:f.frozen? ⟨w+1,0,none⟩=false:=by rw[iA (w:=U) (ac _ oO)];exact ad
  have x4:f.cell? ⟨w,0,none⟩=some (.int .i64 (d:Int)):=by rw[eR (w:=U) (ac _ oO)];exact hdc
  have x5:Row f (w.heap.size+3) (ints qs):=by unfold Row;rw[ac _ oE];exact Z
  have x6:Below w w f:=by rw[<-Q];exact aa.setCell (p:=⟨w+1+1,0,none⟩) oS _
  have af:=LG P.b X (by rw[P.a];exact al);rw[L.u]at af;obtain⟨OV,an⟩:=dW qs j (by rw[X.2.2.1,P.a];exact al);have y0:f.drew.cell? ⟨w+3,j,none⟩=some (.int .i64 (OV:Int)):=x5.cell (jK an);have y1:f.drew.frozen? ⟨w+3,j,none⟩=false:=x5.free j;have R:(r:Int)*1073741824+(xd:Int)=((r*BB+xd:Nat):Int):=by rw[ju,eJ];rfl
  have z0:¬d=0:=oE;have z1:((r:Int)*1073741824+(xd:Int)).tdiv (d:Int)=(((r*BB+xd)/d:Nat):Int):=by rw[R];exact(Int.ofNat_tdiv _ _).symm
  have z2:((r:Int)*1073741824+(xd:Int)).tmod (d:Int)=(((r*BB+xd)%d:Nat):Int):=by rw[R];exact(Int.ofNat_tmod _ _).symm
  have z4:=g_ af.2;have ag:=x5.put j (((r*BB+xd)/d:Nat):Int);rw[ints_set]at ag;generalize (r*BB+xd)/d=qd at*;generalize (r*BB+xd)%d=rd at*
  have z3:IntKind.i64.wrap (qd:Int)=(qd:Int):=by rw[bR];omega
  have u0:=aF (Mr:= [w.heap.size+3]) oO x0;have u2:=aF (Mr:= [w.heap.size+3]) oO x2;have u4:=aF (Mr:= [w.heap.size+3]) oO x4;have y3:f.drew.cell? ⟨w+1+1,0,none⟩=some (.int .i64 ((r:Int)*1073741824+(xd:Int))):=x0;have y4:f.drew.frozen? ⟨w+1+1,0,none⟩=false:=x1;have k4:Keeps [w.heap.size+2,w.heap.size+3] U f:=by rw[<-Q];exact(cF _ _).setCell (p:=⟨w+1+1,0,none⟩) (.inl oO) _
  have y5:(f.setCell ⟨w+3,j,none⟩ (.int .i64 (qd:Int))).drew.cell? ⟨w+1+1,0,none⟩=some (.int .i64 ((r:Int)*1073741824+(xd:Int))):=(eR (w:=f) (i_ f _ _ _ oO)).trans x0;have y6:(f.setCell ⟨w+3,j,none⟩ (.int .i64 (qd:Int))).drew.frozen? ⟨w+1+1,0,none⟩=false:=(iA (w:=f) (i_ f _ _ _ oO)).trans x1;have F:=Hd (And.intro k4 (And.intro au (And.intro af (And.intro ag (And.intro x2 (And.intro x3 (And.intro x4 x6)))))));clear k4 au af ag x0 x1 x2 x3 x4 x5 x6 ac Q R an X Z G ad hdc aa I ae;refine aP [w.heap.size+3] 10 oF oF ?_;refine ay 0 ?_;refine ay 1 ?_;refine ay 2 ?_;refine ay 3 ?_;refine ay 4 ?_;refine ay 5 ?_;refine ay 6 ?_;refine ay 7 ?_;refine ay 8 ?_;refine eU 9 fun K S=>?_;gi_wp2;refine⟨(((cF [w.heap.size+3] f).setCell (p:=⟨w+3,j,none⟩) (.inl oO) _).drew).aho,?_⟩;refine FN 1 oF rfl ?_;refine jW fun K S K' ax=>?_;gi_wp2;refine dC _ ?_;simp only[cu];gi_wp2;obtain⟨f0,f1,f2,f3,f4,f5,f6,f7⟩:=F.out;have z:Keeps [w.heap.size+2,w.heap.size+3] f ((f.setCell ⟨w+3,j,none⟩ (.int .i64 (qd:Int))).setCell ⟨w+1+1,0,none⟩ (.int .i64 (rd:Int))).drew:=(((cF _ f).setCell (p:=⟨w+3,j,none⟩) (.inl oO) _).setCell (p:=⟨w+1+1,0,none⟩) (.inl oO) _).drew;refine⟨(f0.trans z).to (by rw[f1];exact aD),j,⟨oE,L.a⟩,⟨_,rd,f2.1,((f3.uw oE 0 _).drew),cZ y5⟩,by simpa using y6,z.cell oO f4,?_,z.cell oO f6,?_⟩;·exact(iA (w:=f) (z.block _ (bu f _ f4) oO)).trans f5
  ·exact((f7.setCell (p:=⟨w+3,j,none⟩) oO _).setCell (p:=⟨w+1+1,0,none⟩) oS _).drew
 case done=>
  rintro D W X ⟨k,⟨hk,ab⟩,hS⟩ hdef;obtain rfl:=Ib ab;obtain⟨⟨qs,r,Y,Z,I⟩,ae,G,ad,hdc,aa⟩:=hS;obtain⟨R,e2⟩:=QB Y;rw[P.v]at R e2;have ao:r<=1073741823:=by have:=Y.2.1;omega
  have hl:(ints qs).length=n:=by rw[jm,Y.2.2.1,P.a]
  have Nw:w.heap.size+3∉D::(w.heap.size+1)::(w.heap.size+1+1)::M:=fun e=>by
   simp only[cB]at e;rcases e with e|e|e|e;·omega
   ·omega
   ·omega
   have:=HM.out _ e;omega
  have ar:=Z.sl Nw hl oE (fU Y.2.2.2);have J:=Hd (And.intro ar (And.intro Y.2.2.2 (And.intro R (And.intro e2 (And.intro aa (And.intro Z.lt (And.intro G (And.intro ad (And.intro I ae)))))))));have v2:=aF (Mr:= [w.heap.size+1]) oO I;have v1:W.drew.cell? ⟨w+1,0,none⟩=some (.slice (some ⟨w+3,0,none⟩) n n):=G;clear Y Z R e2 hl Nw ar hdc ab ad ae;gi_wp2;refine aP [w.heap.size+1] 4 oF oF ?_;refine ay 2 ?_;refine eU 0 fun K S=>?_;gi_wp2;refine⟨cF _ _,?_⟩;refine eU 1 fun K S=>?_;gi_wp2;refine Cm (jw _ _ _ qs W.drew (J.a.keep (cF _ W).drew) J.b) ?_;rintro e T ⟨q,rfl,C,ht,hb4⟩;have HT:=fB ht C hb4;have aA:=C;clear ht C;refine S _ _ ⟨?_,?_⟩;clear S K;·exact a_ hb4 _
  refine lit ?_;have t1:T.cell? ⟨w+1,0,none⟩=some (.slice (some ⟨w+3,0,none⟩) n n):=(a_ hb4 []).cell oO G;have t2:T.cell? ⟨w+1+1,0,none⟩=some (.int .i64 (r:Int)):=(a_ hb4 []).cell oO I;have t3:T.frozen? ⟨w+1,0,none⟩=false:=(iA (w:=W.drew) (hb4.block _ (bu W _ G))).trans J.out.2.2.2.2.2.2.2.1;have t4:T.frozen? ⟨w+1+1,0,none⟩=false:=(iA (w:=W.drew) (hb4.block _ (bu W _ I))).trans J.out.2.2.2.2.2.2.2.2.2;have t5:T.heap[D]?=some (.deferred (some [])):=(hb4.block D (cS.1 hdef).1).trans hdef;have ak:Below w w T:=aa.drew.trans (hb4.mono aa.size);have hs5:=((J.a.keep (cF _ W).drew).keep (a_ hb4 _)).nY aA;have ai:=Hd2 ak hs5;clear hb4 ak v1 v2 G I hs5;refine eU 3 fun K S=>?_;gi_wp2;refine⟨(cF _ _).setCell (p:=⟨w+1,0,none⟩) (.inl oO) _,?_⟩;refine FN 1 oF rfl ?_;refine jW fun K S K' ax=>?_;gi_wp2;refine dC _ ?_;simp only[cu];gi_wp2;refine⟨oO,.inl ⟨_,_,rfl,jf (fA (fA t5)),?_⟩⟩;have m1:=qg (W:=(T.setCell ⟨w+1,0,none⟩ (.slice (some ⟨w+3,0,none⟩) q n)).setCell ⟨w+1+1,0,none⟩ (.int .i64 (r:Int))) (D:=D) (LX (b:=⟨w+1,0,none⟩) oO (cZ t1)) (fA (fA t5));have m2:=qg (W:=(T.setCell ⟨w+1,0,none⟩ (.slice (some ⟨w+3,0,none⟩) q n)).setCell ⟨w+1+1,0,none⟩ (.int .i64 (r:Int))) (D:=D) (cZ (LX (b:=⟨w+1+1,0,none⟩) oO t2)) (fA (fA t5));refine⟨.tuple #[.slice (some ⟨w+3,0,none⟩) q n,.int .i64 (r:Int)],by simp[results,go_sem,m1,m2],?_⟩;have ap:=ai.u;rw[eG,HT.a,J.c]at ap;have bB:Below w w (((T.setCell ⟨w+1,0,none⟩ (.slice (some ⟨w+3,0,none⟩) q n)).setCell ⟨w+1+1,0,none⟩ (.int .i64 (r:Int))).putObj D (.deferred none)):=nV ((ai.a.setCell (p:=⟨w+1,0,none⟩) oO _).setCell (p:=⟨w+1+1,0,none⟩) oS _) oE pc;have kF:Keeps (D::(w.heap.size+1)::(w.heap.size+1+1)::M) T (((T.setCell ⟨w+1,0,none⟩ (.slice (some ⟨w+3,0,none⟩) q n)).setCell ⟨w+1+1,0,none⟩ (.int .i64 (r:Int))).putObj D (.deferred none)):=(((cF _ _).setCell (p:=⟨w+1,0,none⟩) (.inl oO) _).setCell (p:=⟨w+1+1,0,none⟩) (.inl oO) _).putObj oO _;exact⟨_,q,n,by rw[J.d],(ap.keep kF).less (fun k hk=>by simp[hk]),bB⟩
end
