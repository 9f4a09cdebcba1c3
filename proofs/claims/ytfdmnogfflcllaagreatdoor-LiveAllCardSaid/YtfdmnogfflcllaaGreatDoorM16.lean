/- Lemmas -/
import Derived.Lib.AppendZeros
import Derived.Test.YtfdmnogfflcllaaGreatDoorM15
set_option linter.all false
set_option maxRecDepth 100000
set_option maxHeartbeats 0
namespace Go.Proofs.YtfdmnogfflcllaaGreatDoor
open Go.Proofs.Tryz Go.RowKit Go.Shelf
theorem EN{p:Prop}(h:p:=by subst hb;have h:(w.alloc (.cells #[v] t)).heap[w.heap.size]?=some (.cells #[v] t (0,0)):=gH w _;exact⟨by unfold World.cell?;simp only[h];rfl,by unfold World.frozen?;simp only[h];rfl⟩):p:=h
theorem Ip{p:Prop}(h:p:=by unfold execOp;rw[ho];simp only[resolve,invoke,builtin,Sem.run_bind,Sem.run_pure,Result.andThen_ok,List.map_toArray,eV,ia,hx,hy,hr];exact hk):p:=h
theorem TN{p:Prop}(h:p:=by apply List.filter_congr;intro x hx;have:¬x=k:=fun e=>hn2.1 (e▸hx);simp[this]):p:=h
variable {K:Act→World→Prop}{o:Oper}{a:Act}{u u0:Value}{A:Option Addr}{c m g k cap j n0 f i:Nat}{nm:List ByteArray}{L:List (Nat×List Value)}{x:Operand}{us:List Value}{ops:Array Oper}{listed listed':Array Bool}{t:TypeId}
section
variable {α:Type} [kJ α] {e:TypeId}{w w':World}{M M':List Nat}{base base' n:Nat}{v:Value}{xs:List α}
theorem bD.ahM(h:bD α e w M base v n xs){b:Nat}(hb:w.heap.size<=b):bD α e w (b::M) base v n xs:=by
 obtain⟨cs,s,y⟩:=h.ex;refine⟨h.len,cs,s,fun k x z=>?_⟩;obtain⟨l,a,c⟩:=y k x z;refine⟨l,oY (Rep.more a hb) (fun q d=>?_),c⟩;rcases cK.1 d with d|d;·exact bE _ (di _ d)
 rcases cD.1 d with rfl|d;·exact cw
 exact bE _ (cP _ d)
theorem bD.UC(h:bD α e w M base v n xs)(hs:∀q,q∈M'->q∈M):bD α e w M' base v n xs:=by
 obtain⟨cs,s,y⟩:=h.ex;refine⟨h.len,cs,s,fun k x z=>?_⟩;obtain⟨l,a,c⟩:=y k x z;refine⟨l,oY a (fun q d=>?_),c⟩;rcases cK.1 d with d|d;·exact di _ d
 exact cP _ (hs q d)
theorem bD.low(h:bD α e w M base v n xs)(hb:base'<=base):bD α e w M base' v n xs:=by
 obtain⟨cs,⟨s,y⟩,h3⟩:=h.ex;refine⟨h.len,cs,⟨s,?_⟩,h3⟩;rcases y with g|⟨g,cap,d,rfl,D,l⟩;·exact .inl g
 exact .inr ⟨g,cap,d,rfl,cF hb D,l⟩
theorem bD.shape(h:bD α e w M base v n xs):∃A c,v=.slice A n c:=by
 obtain⟨cs,⟨s,d⟩,-⟩:=h.ex;rcases d with⟨rfl,rfl⟩|⟨g,cap,l,rfl,-⟩;·exact⟨_,_,rfl⟩
 exact⟨_,_,rfl⟩
theorem bD.apart(h:bD α e w M base v n xs)(k:Keeps M' w w')(hs:∀q,q∈M'->q∈M)(hg:∀q,q∈M'->v.ownBlock≠some q):bD α e w' M base v n xs:=by obtain⟨cs,s,y⟩:=h.ex;refine⟨h.len,cs,qp s (fun q d z=>k.block q z (fun D=>hg q D d)),fun i x hx=>?_⟩;obtain⟨l,a,b⟩:=y i x hx;exact⟨l,jf a (k.mono (fun q d=>cP _ (hs q d))),b⟩
end
theorem IX{F:Fence}{n:Nat}{P:Program}{Q:Exit->Act->World->Prop}{w w':World}(x y:Operand)(t tn:TypeId){v v':Value}
 (ho:o.op=.call { callee:=.builtin .append,args:=#[x,y],argTypes:=#[t,tn] }) (hx:a.eval x=v) (hy:a.eval y=u)
 (hr:(Builtin.append_ #[t,tn] o.type #[v,u]).run P w=.ok v' w') (hk:K (a.put o.dst v') w'):o.wpIn F n P a w K Q:=by
 have d:Oper.mild o=true:=by unfold Oper.mild;rw[ho]
 unfold Oper.wpIn;refine⟨jP d w _,?_⟩;rw[sF d];exact Ip
theorem Kq:iU 156 (Rep.sz bW):=iU.mk' Gt rfl pj
theorem Gw(w:World):(sizeOf 156).run prog w=.ok 3 w:=pk
theorem UD{n:Nat}(hn:n<=100000)(M:List Nat)(w:World):
 Calls prog 266 #[.slice none 0 0,.int .i64 (n:Int)] w fun e w'=>∃v,e=.returned v/\bD bW 156 w' M w.heap.size v 0 []/\Below w w w':=by
 refine wid ?_;by_cases G:n=0;·subst G;refine ent func266 ntmps266 ?_;gi_wp2;go_ret;exact⟨_,rfl,bD.nil _ _ _,bL _ _⟩
 ·obtain⟨i,H,J,R,N⟩:=lB Gt;have d:=Lib.run_append_nil_zeros (P:=prog) w 23 3 23 156 i _ .i64 .i64 underlying23 underlying3 H J n pj pj pj (by rw[N];omega);obtain⟨cp,z⟩:=aC (grownCap w n 0 156);have D:=grownCap_ge w n 0 156;have s:=grownCap_le_maxLen w n 0 156 (by unfold maxLen;omega);obtain⟨cs,l⟩:=aC (Builtin.zeroCells (Value.agg #[.string ⟨#[]⟩,.int .i64 0,.int .i64 0]).cells n++Builtin.zeroCells (Value.agg #[.string ⟨#[]⟩,.int .i64 0,.int .i64 0]).cells (cp-n));rw[z]at D s d;rw[l]at d;have I:cs.size=cp*3:=by
   rw[<-l,Array.size_append,size_zeroCells,size_zeroCells];rw[show(Value.agg #[.string ⟨#[]⟩,.int .i64 0,.int .i64 0]).cells.size=3 from rfl];omega
  have s1:=nZ underlying23 Gw none (n:=0) (cp:=0) (k:=0) pj pj;have s2:=nZ underlying23 Gw (some ⟨w,0,none⟩) (n:=n) (cp:=cp) (k:=0) pj D;have O:(0:Int)<(n:Int):=pj;have E:=Hd d;have HZ:=Hd2 I s;clear d l z s;refine ent func266 ntmps266 ?_
  gi_wp2_with (first
   |(gi_at_builtin;refine c_ rfl fun K y=>?_;refine IX _ _ _ _ rfl rfl rfl E.out (y _ _ ?_);clear y K)
   |fail)
  go_ret;refine⟨_,rfl,⟨rfl, [],⟨po,.inr ⟨w,cp,cs,rfl,bj _,gH w.drew _,cf _,HZ.u,HZ.a,po⟩⟩,fun k x hx=>by simp at hx⟩,?_⟩;exact((bL w w).drew).alloc pD _
theorem Sl.own{α:Type} [kE α] {w:World}{M:List Nat}{n:Nat}{l:List α}{v:Value}(h:Sl α w M A n c l)(hg:∀q,v.ownBlock=some q->w.heap.size<=q):Sl α w (bP v++M) A n c l:=by
 unfold bP
 cases d:v.ownBlock with
 |none=>simpa using h
 |some q=>exact h.more (hg q d)
theorem Kr{w w0:World}{M:List Nat}{v:Value}{n:Nat}{xs ys:List bW}(h:bD bW 156 w M w0.heap.size v n xs)(hb:Below w0 w0 w)(hy:Sl bW w0 M A m c ys)(hn:n+m<=100000):
 ∃v' w',(Builtin.append_ #[23,23] 23 #[v,.slice A m c]).run prog w=.ok v' w'/\bD bW 156 w' M w0.heap.size v' (n+m) (xs++ys)/\Below w0 w0 w':=by
 obtain⟨i,z,y,D,E,G,H⟩:=Kq;have s:=(hy.own (v:=v) (fun q l=>(h.lt l).1)).go hb;obtain⟨v',w',I,T,J,-⟩:=h.uy (t:=23) (ty:=23) hb.size underlying23 y D E G s (by have:=fS hn H;omega) pj;exact⟨v',w',I,T,hb.grown J hb.size (fun k d=>(h.lt d).1)⟩
theorem CW{B:Option Addr}{n d:Nat}{l l':List bW}{M:List Nat}{w:World}(hx:Sl bW w M A n c l)(hy:Sl bW w M B m d l')(c0:w.cell? ⟨g,0,none⟩=some (.slice A n c))(c1:w.cell? ⟨g,1,none⟩=some (.slice B m d))(hnm:n+m<=100000):
 Calls prog 237 #[.slice (some ⟨g,0,none⟩) 2 2] w fun e w'=>∃v,e=.returned v/\bD bW 156 w' M w.heap.size v (n+m) (l++l')/\Below w w w':=by
 refine wid ?_;have H:=Hd2 hx hy;have O:=Hd2 c0 c1;have HN:=Hd hnm;clear hx hy;refine ent func237 ntmps237 ?_;gi_wp2;gi_loopw[3,11] (fun v3 i wr=>w=wr/\((i=.int .i64 0/\v3=.int .i64 0)\/(i=.int .i64 1/\v3=.int .i64 (n:Int))\/(i=.int .i64 2/\v3=.int .i64 ((n+m:Nat):Int)))) (fun _ i _=>2-(intOf i).toNat);case atStart=>exact⟨rfl,.inl ⟨rfl,rfl⟩⟩
 case round=>
  obtain⟨J,⟨rfl,rfl⟩|⟨rfl,rfl⟩|⟨rfl,rfl⟩⟩:=hrel;·subst J;have Y:¬((0:Int)+(n:Int)<0):=pj;have aa:¬((n:Int)<0):=pj;gi_wp2;exact⟨⟨bO,.inr (.inl ⟨rfl,rfl⟩)⟩,pt⟩
  ·subst J;have Y:¬((n:Int)+(m:Int)<0):=pj;gi_wp2;exact⟨⟨bO,.inr (.inr ⟨rfl,by go_num⟩)⟩,pt⟩
  ·subst J
   gi_wp2_with (first
    |(refine Cl 266 (UD HN.out M _) ?_;rintro e w1 ⟨v,rfl,own,R⟩;have X:=Hd own;have HB:=Hd R;clear own R)
    |fail)
   gi_loopw[6,27] (fun N i wr=>Hid (Below w w wr)/\((i=.int .i64 0/\Hid (bD bW 156 wr M w.heap.size N 0 []))\/(i=.int .i64 1/\Hid (bD bW 156 wr M w.heap.size N n l))\/(i=.int .i64 2/\Hid (bD bW 156 wr M w.heap.size N (n+m) (l++l'))))) (fun _ i _=>2-(intOf i).toNat);case atStart=>exact⟨HB,.inl ⟨rfl,X⟩⟩
   case round=>
    obtain⟨y,⟨rfl,D⟩|⟨rfl,D⟩|⟨rfl,D⟩⟩:=hrel
    ·have d0:=(bq y.out []).cell po O.a;obtain⟨Z,w7,E,T,G⟩:=Kr (m:=n) D.out y.out H.a (by have:=HN.out;omega);have I:=Hd E;have s:=Hd2 T G;clear E T G
     gi_wp2_with (first
      |(gi_at_builtin;refine c_ rfl fun K z=>?_;refine aI _ _ _ rfl rfl rfl I.out (z _ _ ?_);clear z K)
      |fail)
     exact⟨⟨s.u,.inr (.inl ⟨rfl,by have h:=s.a;rw[dC,df]at h;exact h⟩)⟩,pt⟩
    ·have d1:=(bq y.out []).cell po O.u;obtain⟨Z,w7,E,T,G⟩:=Kr (m:=m) D.out y.out H.u HN.out;have I:=Hd E;have s:=Hd2 T G;clear E T G
     gi_wp2_with (first
      |(gi_at_builtin;refine c_ rfl fun K z=>?_;refine aI _ _ _ rfl rfl rfl I.out (z _ _ ?_);clear z K)
      |fail)
     exact⟨⟨s.u,.inr (.inr ⟨rfl,s.a⟩)⟩,pt⟩
    ·gi_wp2;go_ret;exact⟨_,rfl,D.out,y.out⟩
abbrev nR:List Value:= [.string ⟨#[]⟩,.slice none 0 0,.slice none 0 0,.slice none 0 0,.slice none 0 0,.slice none 0 0,.slice none 0 0,.slice none 0 0,.int .i64 0]
theorem vM{b:Nat}:∀(us:List Value) (o:Nat) {w U:World},(∀i,i<us.length->∃v,w.cell? ⟨b,o+i,none⟩=some v)->fM w b o us=U->(∀i,i<o->U.cell? ⟨b,i,none⟩=w.cell? ⟨b,i,none⟩)/\∀i u,us[i]?=some u->U.cell? ⟨b,o+i,none⟩=some u
 | [],o,w,U,_,h=>by subst h;exact⟨fun _ _=>rfl,fun i u hu=>by simp at hu⟩
 |x::us,o,w,U,hc,h=>by
  obtain⟨v0,h0⟩:=hc 0 po;rw[eB]at h0;have hx:(w.setCell ⟨b,o,none⟩ x).cell? ⟨b,o,none⟩=some x:=cZ h0;have ho:∀i,i≠o->(w.setCell ⟨b,o,none⟩ x).cell? ⟨b,i,none⟩=w.cell? ⟨b,i,none⟩:=fun i hi=>by simp[go_sem,hi,fun e:o=i=>hi e.symm]
  obtain⟨r1,r2⟩:=vM us (o+1) (w:=w.setCell ⟨b,o,none⟩ x) (fun i hi=>by obtain⟨v,hv⟩:=hc (i+1) px;exact⟨v,by rw[ho _ pj,show o+1+i=o+(i+1) by omega];exact hv⟩) h;refine⟨fun i hi=>(r1 i pj).trans (ho i pj),fun i u hu=>?_⟩
  cases i with
  |zero=>simp only[iz,mz]at hu;subst hu;rw[eB];exact(r1 o pj).trans hx
  |succ i=>
   rw[fI]at hu;have:=r2 i u hu
   rwa [show o+1+i=o+(i+1) by omega]at this
theorem Kt(w:World):(Instr.makeMap 262 none).run prog w=.ok (.map (some w.heap.size)) (w.alloc (.map #[] 0)):=by rfl
theorem UE(w:World):(Instr.makeMap 281 none).run prog w=.ok (.map (some w.heap.size)) (w.alloc (.map #[] 0)):=by rfl
theorem dB.al{w:World}{b:Nat}(h:dB w b nm k)(o:Obj):dB (w.alloc o) b nm k:=h.block (mI w o b h.lt)
theorem dB.new{w:World}{b:Nat}(nm:List ByteArray)(hb:b=w.heap.size):dB (w.alloc (.map #[] 0)) b nm 0:=by subst hb;exact dB.made w nm
theorem aZ.al{w:World}{b:Nat}{v:Value}(h:aZ w b v)(o:Obj):aZ (w.alloc o) b v:=h.block (mI w o b h.lt)
theorem aZ.new{w:World}{b:Nat}(v:Value)(t:TypeId)(hb:b=w.heap.size):aZ (w.alloc (.cells #[v] t)) b v:=by exact EN
structure Made(w W:World)(h:Nat)(cn inm tn rn:List ByteArray):Prop where
 bl:Below w w W
 sz:W.heap.size=h+6
 c:dB W h cn 0
 i:dB W (h+1) inm 0
 t:dB W (h+1+1) tn 0
 r:dB W (h+1+1+1) rn 0
 vc:aZ W (h+1+1+1+1) (.map (some h))
 vr:aZ W (h+1+1+1+1+1) (.map (some (h+1+1+1)))
theorem Gx(w:World)(cn inm tn rn:List ByteArray):∃W,((((((w.alloc (.map #[] 0)).alloc (.map #[] 0)).alloc (.map #[] 0)).alloc (.map #[] 0)).alloc (.cells #[.map (some w.heap.size)] 262)).alloc (.cells #[.map (some (w.heap.size+1+1+1))] 262))=W/\Made w W w.heap.size cn inm tn rn:=by
 refine⟨_,rfl,?_,?_,?_,?_,?_,?_,?_,?_⟩;·exact((((((bL w w).alloc po _).alloc (by simp;try omega) _).alloc (by simp;try omega) _).alloc (by simp;try omega) _).alloc (by simp;try omega) _).alloc (by simp;try omega) _
 ·simp
 ·exact(((((dB.new cn rfl).al _).al _).al _).al _).al _
 ·exact((((dB.new inm po).al _).al _).al _).al _
 ·exact(((dB.new tn po).al _).al _).al _
 ·exact((dB.new rn po).al _).al _
 ·exact(aZ.new _ _ po).al _
 exact aZ.new _ _ po
section
variable {w W W':World}{M:List Nat}{r:aS}{s1 s2 s3 s4 s5 s6 s7:dK}
theorem dG.keep(h:dG W M r s1 s2 s3 s4 s5 s6 s7)(k:Keeps M W W'):dG W' M r s1 s2 s3 s4 s5 s6 s7:=⟨h.aT.keep k,h.bonus.keep k,h.malus.keep k,h.ties.keep k,h.rounds.keep k,h.prizes.keep k,h.points.keep k,h.best⟩
theorem dG.more(h:dG W M r s1 s2 s3 s4 s5 s6 s7){b:Nat}(hb:W.heap.size<=b):dG W (b::M) r s1 s2 s3 s4 s5 s6 s7:=⟨h.aT.more hb,h.bonus.more hb,h.malus.more hb,h.ties.more hb,h.rounds.more hb,h.prizes.more hb,h.points.more hb,h.best⟩
structure RB(w W:World)(h:Nat)(L:List (Nat×List Value))(M:List Nat)(r:aS)(s1 s2 s3 s4 s5 s6 s7:dK):Prop where
 f:Fr w W L
 lt:∀b vs,(b,vs)∈L->b<h
 hw:w.heap.size<=h
 vc:aZ W (h+1+1+1+1) (.map (some h))
 vr:aZ W (h+1+1+1+1+1) (.map (some (h+1+1+1)))
 tab:Tab W
 rs:dG W (h::(h+1)::(h+1+1)::(h+1+1+1)::M) r s1 s2 s3 s4 s5 s6 s7
theorem RB.turn{h:Nat}(H:RB w W h L M r s1 s2 s3 s4 s5 s6 s7)(hm:dB W g nm k)(kb:KB g W W')(h1:h<=g)(h2:g<=h+3):RB w W' h L M r s1 s2 s3 s4 s5 s6 s7:=⟨H.f.kb kb (cF H.hw h1) (fun c vs hc=>by have:=H.lt c vs hc;omega),H.lt,H.hw,H.vc.kb kb.k pj,H.vr.kb kb.k pj,CG H.tab hm kb,H.rs.keep (kb.k.mono (fun q hq=>by rw[bz]at hq;subst hq;simp only[cD];omega))⟩
theorem RB.go{h:Nat}{L:List (Nat×List Value)}(H:RB w W h L M r s1 s2 s3 s4 s5 s6 s7)(kb:Below W.heap.size W W'):RB w W' h L M r s1 s2 s3 s4 s5 s6 s7:=⟨H.f.go kb,H.lt,H.hw,H.vc.block (kb.block _ H.vc.lt),H.vr.block (kb.block _ H.vr.lt),tab_below H.tab kb,H.rs.go kb⟩
theorem dB.kb{b g k:Nat}{nm:List ByteArray}(h:dB W b nm k)(kb:KB g W W')(hne:b≠g):dB W' b nm k:=h.block (kb.k.block b h.lt (by simpa using hne))
theorem RB.of{cn inm tn rn:List ByteArray}(hf:Fr w W L)(ht:Tab W)(hr:dG W M r s1 s2 s3 s4 s5 s6 s7)(hm:Made W W' W.heap.size cn inm tn rn):RB w W' W.heap.size L M r s1 s2 s3 s4 s5 s6 s7:=⟨hf.go hm.bl,fun b vs hb=>hf.lt b vs hb,hf.bl.size,hm.vc,hm.vr,tab_below ht hm.bl,((((hr.more (b:=W+1+1+1) pj).more (b:=W+1+1) pj).more (b:=W+1) pj).more (b:=W) pD).go hm.bl⟩
end
theorem aN{w:World}{b o:Nat}{v:Value}(h:w.cell? ⟨b,o,none⟩=some v):w.setCell ⟨b,o,none⟩ v=w:=by
 obtain⟨heap,H,d,E,G⟩:=w;have y:(heap.modify b fun| .cells c elem frozen=>.cells (c.setIfInBounds o v) elem frozen|o=>o)=heap:=by
  apply ph;·simp
  intro i I l;rw[Array.getElem_modify];split
  ·rename_i e;subst e;simp only[World.cell?,ln l]at h;split at h
   ·rename_i c t f he;have s:heap[b]=.cells c t f:=by simpa using he
    rw[s];simp only[Option.isSome_none,gm,oB]at h;have z:=(cR.1 h).1;simp only[Obj.cells.injEq,and_true];apply ph;·simp
    intro j j1 D;rw[Array.getElem_setIfInBounds (by simpa using D)];split;·rename_i e;subst e;rw[ln z]at h;exact(fk h).symm
    rfl
   cases h
  rfl
 exact gT (fun h=>(⟨h,H,d,E,G⟩:World)) y
section
variable {α β:Type} [kJ α] [kJ β] {e e':TypeId}{w w':World}{M M':List Nat}{base base' n n':Nat}{v v':Value}{xs:List α}{ys:List β}
theorem P5(h:bD α e w M base v n xs)(hb:Below w w w')(h':bD β e' w' (bP v++M) w.heap.size v' n' ys):
 bD α e w' (bP v'++M) base v n xs/\bD β e' w' (bP v++M) w.heap.size v' n' ys/\∀q,v.ownBlock=some q->v'.ownBlock≠some q:=by
 refine⟨?_,h',fun q l s=>?_⟩
 ·cases d:v'.ownBlock with
  |none=>unfold bP;rw[d];exact h.go hb
  |some g=>unfold bP;rw[d];exact(h.ahM (h'.lt d).1).go hb
 ·have y:=(h.lt l).2;have z:=(h'.lt s).1;omega
end
theorem set_self{α:Type}{l:List α}{x:α}(h:l[k]?=some x):l.set k x=l:=by obtain⟨d,rfl⟩:=bu.1 h;exact List.set_getElem_self d
abbrev xC(r:aS)(s1 s2 s3:dK)(v4 v5:Value)(s6 s7:dK):List Value:= [r.name,s1.v,s2.v,s3.v,v4,v5,s6.v,s7.v,r.best]
structure XS(w W:World)(lb fb cb rb eb bc br bt xb B:Nat)(cn rn tn:List ByteArray)(M:List Nat)(C:List Value)(v4:Value)(n4:Nat)(lt:List dA)(v5:Value)(n5:Nat)(lr:List aJ):Prop where
 bl:Below w w W
 ll:w.heap.size<=lb
 re:RE W lb fb cb rb eb bc br cn rn
 it:dB W bt tn tn.length
 lo:aZ W lb false
 x:∀i u,C[i]?=some u->W.cell? ⟨xb,i,none⟩=some u/\W.frozen? ⟨xb,i,none⟩=false
 UF:fb<B/\cb<B/\rb<B/\eb<B/\bc<B/\br<B
 lt2:bt<B/\lb<B/\xb<B
 ne:bt≠lb/\xb≠lb
 BW:B<=W.heap.size
 o4:bD dA 142 W (bP v5++M) B v4 n4 lt
 o5:bD aJ 68 W (bP v4++M) B v5 n5 lr
 dj:∀q,v4.ownBlock=some q->v5.ownBlock≠some q
 bm:∀q,q∈M->q<B
 lM:lb∈M
section
variable {w W W':World}{lb fb cb rb eb bc br bt xb B:Nat}{cn rn tn:List ByteArray}{M:List Nat}{C:List Value}{v4:Value}{n4:Nat}{lt:List dA}{v5:Value}{n5:Nat}{lr:List aJ}
theorem XS.kb(h:XS w W lb fb cb rb eb bc br bt xb B cn rn tn M C v4 n4 lt v5 n5 lr)(k:KB lb W W')(v:aZ W' lb false):XS w W' lb fb cb rb eb bc br bt xb B cn rn tn M C v4 n4 lt v5 n5 lr where
 bl:=h.bl.trans (k.bl.mono h.ll)
 ll:=h.ll
 re:=h.re.kb k
 it:=h.it.kb k h.ne.1
 lo:=v
 x i u hu:=jB (h.x i u hu) (k.k.block xb (bX h.lt2.2.2 h.BW) (by simpa using h.ne.2))
 UF:=h.UF
 lt2:=h.lt2
 ne:=h.ne
 BW:=cF h.BW k.k.size
 o4:=h.o4.spare k.k (fun q hq=>by rw[bz]at hq;subst hq;exact cP _ h.lM) (fun q hq=>by rw[bz]at hq;subst hq;exact h.lt2.2.1)
 o5:=h.o5.spare k.k (fun q hq=>by rw[bz]at hq;subst hq;exact cP _ h.lM) (fun q hq=>by rw[bz]at hq;subst hq;exact h.lt2.2.1)
 dj:=h.dj
 bm:=h.bm
 lM:=h.lM
theorem XS.go(h:XS w W lb fb cb rb eb bc br bt xb B cn rn tn M C v4 n4 lt v5 n5 lr)(k:Below W W W'):XS w W' lb fb cb rb eb bc br bt xb B cn rn tn M C v4 n4 lt v5 n5 lr:=h.kb ⟨bq k _,k.mono (cY h.lo.lt)⟩ (h.lo.block (k.block _ h.lo.lt))
theorem XS.high(h:XS w W lb fb cb rb eb bc br bt xb B cn rn tn M C v4 n4 lt v5 n5 lr)(k:Keeps [g] W W')(hb:Below B W W')(hg:B<=g){lt':List dA}{lr':List aJ}
 (o4:bD dA 142 W' (bP v5++M) B v4 n4 lt') (o5:bD aJ 68 W' (bP v4++M) B v5 n5 lr'):XS w W' lb fb cb rb eb bc br bt xb B cn rn tn M C v4 n4 lt' v5 n5 lr' where
 bl:=h.bl.trans (hb.mono (cF h.ll (cY h.lt2.2.1)))
 ll:=h.ll
 re:={ h.re with
   f:=h.re.f.block (hb.block _ h.UF.1)
   c:=h.re.c.block (hb.block _ h.UF.2.1)
   r:=h.re.r.block (hb.block _ h.UF.2.2.1)
   e:=h.re.e.block (hb.block _ h.UF.2.2.2.1)
   ic:=h.re.ic.block (hb.block _ h.UF.2.2.2.2.1)
   ir:=h.re.ir.block (hb.block _ h.UF.2.2.2.2.2) }
 it:=h.it.block (hb.block _ h.lt2.1)
 lo:=h.lo.block (hb.block _ h.lt2.2.1)
 x i u hu:=jB (h.x i u hu) (hb.block xb h.lt2.2.2)
 UF:=h.UF
 lt2:=h.lt2
 ne:=h.ne
 BW:=cF h.BW k.size
 o4:=o4
 o5:=o5
 dj:=h.dj
 bm:=h.bm
 lM:=h.lM
theorem XS.ai0{x:dA}{A2:Option Addr}{m2 c2:Nat}(h:XS w W lb fb cb rb eb bc br bt xb B cn rn tn M C (.slice (some ⟨g,0,none⟩) n4 cap) n4 lt v5 n5 lr)(hk:lt[k]?=some x)(hs:Sl bK W (g::(bP v5++M)) A2 m2 c2 x.2)(hw:W.setCell ⟨g,k*2+1,none⟩ (.slice A2 m2 c2)=W'):
 XS w W' lb fb cb rb eb bc br bt xb B cn rn tn M C (.slice (some ⟨g,0,none⟩) n4 cap) n4 lt v5 n5 lr/\Keeps [g] W W':=by
 have s:=(h.o4.lt (k:=g) rfl).1;obtain⟨o4,l⟩:=h.o4.afN (j:=1) (us:= [.slice A2 m2 c2]) (x:=x) hk (show 1+1<=2 by omega) (fun E y=>by obtain⟨z,G,D,rfl,-⟩:=vJ y;exact⟨[x.1], [.slice A2 m2 c2],rfl,rfl,A2,m2,c2,rfl,hs⟩) (w':=W') hw;rw[set_self hk]at o4;refine⟨h.high l (by rw[<-hw];exact pE.setCell (p:=⟨g,k*2+1,none⟩) s _) s o4 (h.o5.apart l (fun q d=>by rw[bz]at d;subst d;exact di _ (by simp[bP,Value.ownBlock])) (fun q d=>by rw[bz]at d;subst d;exact h.dj q rfl)),l⟩
theorem XS.ahN{x0 x:aJ}(h:XS w W lb fb cb rb eb bc br bt xb B cn rn tn M C v4 n4 lt (.slice (some ⟨g,0,none⟩) n5 cap) n5 lr)(hk:lr[k]?=some x0)(hj:j+us.length<=13)
 (hr:∀es,Rep.rd W (g::(bP v4++M)) x0 es->Rep.rd W (g::(bP v4++M)) x (es.take j++us++es.drop (j+us.length))) (hw:fM W g (k*13+j) us=W'):
 XS w W' lb fb cb rb eb bc br bt xb B cn rn tn M C v4 n4 lt (.slice (some ⟨g,0,none⟩) n5 cap) n5 (lr.set k x)/\Keeps [g] W W':=by
 have s:=(h.o5.lt (k:=g) rfl).1;obtain⟨o5,l⟩:=h.o5.afN (j:=j) (us:=us) (x:=x) hk hj hr (w':=W') hw;refine⟨h.high l (by rw[<-hw];exact aau s us _ pE) s (h.o4.apart l (fun q d=>by rw[bz]at d;subst d;exact di _ (by simp[bP,Value.ownBlock])) (fun q d=>by rw[bz]at d;subst d;exact fun e=>h.dj q e rfl)) o5,l⟩
end
theorem zO{b c i:Nat}:∀(us:List Value) (o:Nat) (w:World),(fM w b o us).frozen? ⟨c,i,none⟩=w.frozen? ⟨c,i,none⟩
 | [],_,_=>rfl
 |u::us,o,w=>by show(fM (w.setCell ⟨b,o,none⟩ u) b (o+1) us).frozen? _=_;rw[zO us (o+1)];simp[go_sem]
abbrev mP(W:World)(b:Nat)(C:List Value):Prop:=∀i u,C[i]?=some u->W.cell? ⟨b,i,none⟩=some u/\W.frozen? ⟨b,i,none⟩=false
theorem iO{w U:World}{b:Nat}{vs:List Value}(hc:mP w b vs)(hl:us.length=vs.length)(h:fM w b 0 us=U):mP U b us/\KB b w U:=by
 refine⟨fun i u d=>?_,?_⟩
 ·have l:=(bu.1 d).1;refine⟨?_,?_⟩
  ·have:=(vM us 0 (fun i l=>⟨vs[i]'pj,by rw[dC];exact(hc i _ (cd pj)).1⟩) h).2 i u d
   rwa [dC]at this
  rw[<-h,zO];exact(hc i _ (cd pj)).2
 rw[<-h];exact⟨qV (w:=w) us 0 w,aau pD us 0 pE⟩
theorem uD{w:World}{b:Nat}{C:List Value}(hc:mP w b C)(hj:C[j]?=some u0)(u:Value):mP (w.setCell ⟨b,j,none⟩ u) b (C.set j u)/\KB b w (w.setCell ⟨b,j,none⟩ u):=by
 refine⟨fun i v d=>?_,⟨(cG _ _).setCell (p:=⟨b,j,none⟩) (.inl po) _,(bL b w).setCell (p:=⟨b,j,none⟩) pD _⟩⟩;have l:=(bu.1 hj).1;by_cases e:i=j;·subst e;rw[gl l]at d;cases d;exact⟨cZ (hc i u0 hj).1,by simp[go_sem,(hc i u0 hj).2]⟩
 rw[gj (fun e'=>e e'.symm)]at d;have:=hc i v d;exact⟨by simp[go_sem,e,fun e':j=i=>e e'.symm,this.1],by simp[go_sem,this.2]⟩
abbrev IY:Option Value->List Nat
 |none=> []
 |some v=>bP v
structure Ku(V W:World)(xb:Nat)(M:List Nat)(lt:List dA)(n4:Nat)(lr:List aJ)(n5:Nat)(C:List Value)(p q:Option Value):Prop where
 kb:KB xb V W
 xV:xb<V.heap.size
 xM:xb∈M
 x:mP W xb C
 o4:∀v,p=some v->bD dA 142 W (IY q++M) V.heap.size v n4 lt
 o5:∀v,q=some v->bD aJ 68 W (IY p++M) V.heap.size v n5 lr
 dj:∀k,k∈IY p->k∉IY q
section
variable {V W W':World}{xb:Nat}{M:List Nat}{lt:List dA}{n4:Nat}{lr:List aJ}{n5:Nat}{C:List Value}{p q:Option Value}
theorem Ku.sl{α:Type} [kE α] {n:Nat}{l:List α}(h:Ku V W xb M lt n4 lr n5 C p q)(hs:Sl α V M A n c l){o:Option Value}(ho:o=p\/o=q):Sl α W (IY o++M) A n c l:=by
 have d:Sl α V (IY o++M) A n c l:=Sl.moreL hs (IY o) (fun k d=>by
  cases o with
  |none=>cases d
  |some v=>
   rcases ho with ho|ho;·exact((h.o4 v ho.symm).lt (bJ.1 d)).1
   ·exact((h.o5 v ho.symm).lt (bJ.1 d)).1)
 exact d.keep (h.kb.k.mono (fun k d=>by rw[bz]at d;subst d;exact cP _ h.xM))
theorem Ku.go(h:Ku V W xb M lt n4 lr n5 C p q)(hb:Below W W W'):Ku V W' xb M lt n4 lr n5 C p q where
 kb:=h.kb.go hb (by have:=h.xV;have:=h.kb.k.size;omega)
 xV:=h.xV
 xM:=h.xM
 x i u hu:=jB (h.x i u hu) (hb.block xb (by have:=h.xV;have:=h.kb.k.size;omega))
 o4 v hv:=(h.o4 v hv).go hb
 o5 v hv:=(h.o5 v hv).go hb
 dj:=h.dj
theorem Ku.tie{v:Value}(h:Ku V W xb M lt n4 lr n5 C none q)(hb:Below W W W')(o:bD dA 142 W' (IY q++M) W.heap.size v n4 lt):Ku V W' xb M lt n4 lr n5 C (some v) q:=by
 have d:=h.go hb
 cases q with
 |none=>exact⟨d.kb,d.xV,d.xM,d.x,fun u l=>by cases l;exact o.low h.kb.k.size,fun u l=>(by cases l),fun k y s=>(by cases s)⟩
 |some v5=>obtain⟨a,b,c⟩:=P5 (h.o5 v5 rfl) hb o;exact⟨d.kb,d.xV,d.xM,d.x,fun u l=>by cases l;exact b.low h.kb.k.size,fun u l=>by cases l;exact a,fun k y s=>c k (bJ.1 s) (bJ.1 y)⟩
theorem Ku.rnd{v:Value}(h:Ku V W xb M lt n4 lr n5 C p none)(hb:Below W W W')(o:bD aJ 68 W' (IY p++M) W.heap.size v n5 lr):Ku V W' xb M lt n4 lr n5 C p (some v):=by
 have d:=h.go hb
 cases p with
 |none=>exact⟨d.kb,d.xV,d.xM,d.x,fun u l=>(by cases l),fun u l=>by cases l;exact o.low h.kb.k.size,fun k s=>by cases s⟩
 |some v4=>obtain⟨a,b,c⟩:=P5 (h.o4 v4 rfl) hb o;exact⟨d.kb,d.xV,d.xM,d.x,fun u l=>by cases l;exact a,fun u l=>by cases l;exact b.low h.kb.k.size,fun k s y=>c k (bJ.1 s) (bJ.1 y)⟩
theorem Ku.put(h:Ku V W xb M lt n4 lr n5 C p q)(hj:C[j]?=some u0)(u:Value)(hw:W.setCell ⟨xb,j,none⟩ u=W'):Ku V W' xb M lt n4 lr n5 (C.set j u) p q/\Keeps [xb] W W':=by subst hw;obtain⟨x,k⟩:=uD h.x hj u;exact⟨⟨h.kb.trans k,h.xV,h.xM,x,fun v l=>(h.o4 v l).spare k.k (fun q d=>by rw[bz]at d;subst d;exact cP _ h.xM) (fun q d=>by rw[bz]at d;subst d;exact h.xV),fun v l=>(h.o5 v l).spare k.k (fun q d=>by rw[bz]at d;subst d;exact cP _ h.xM) (fun q d=>by rw[bz]at d;subst d;exact h.xV),h.dj⟩,k.k⟩
end
abbrev qX(y:aJ):ByteArray:=y.2.2.2.2.2.2.2.1
abbrev XE(y:aJ):Int:=y.2.2.2.2.2.2.2.2
abbrev dP(r:aS):List ByteArray:=r.aT.map fun x=>x.1
abbrev UG(r:aS):List ByteArray:=(r.bonus++r.malus).map fun x=>x.1
abbrev jF(r:aS):List ByteArray:=r.ties.map fun x=>x.1
abbrev dQ(r:aS):List ByteArray:=r.rounds.map fun x=>x.1
def lU(nm:List ByteArray)(s:ByteArray)(n:Int):Prop:=xB nm s=false/\((xA nm s:Nat):Int)=n
def ZG(r:aS)(k:bK):Prop:=k.2.1.size<=maxLen/\(k.1=1->lU (dP r) k.2.1 k.2.2)/\(k.1=2->lU (dQ r) k.2.1 k.2.2)/\(k.1=5->lU (jF r) k.2.1 k.2.2)
def ahO(r:aS)(y:aJ):Prop:=Ut (au y)/\iV (dP r) (dQ r) (au y)=false/\lC (dP r) (dQ r) (au y)=au y/\(qX y).size<=maxLen/\((qX y).toList= []/\XE y= -1\/¬(qX y).toList= []/\lU (jF r) (qX y) (XE y))
structure ZH(r:aS):Prop where
 small:fD r=true
 parts:∀y,y∈r.rounds->nodes (au y)<=1000
 len:r.aT.length<=1000/\r.bonus.length+r.malus.length<=1000/\r.ties.length<=1000/\r.rounds.length<=1000
 NT:∀t,t∈r.ties->t.2.length<=1000
 z1:∀x,x∈r.aT->x.1.size<=maxLen
 z2:∀x,x∈r.bonus++r.malus->x.1.size<=maxLen
 z3:∀x,x∈r.ties->x.1.size<=maxLen
 z4:∀x,x∈r.rounds->x.1.size<=maxLen
 a1:(r.aT.all fun x=>bZ x.1)=true
 a2:((r.bonus++r.malus).all fun x=>bZ x.1)=true
 a3:(r.ties.all fun x=>bZ x.1)=true
 a4:(r.rounds.all fun x=>bZ x.1)=true
 o1:dX (dP r) r.aT.length=true
 o2:dX (UG r) (r.bonus.length+r.malus.length)=true
 o3:dX (jF r) r.ties.length=true
 o4:dX (dQ r) r.rounds.length=true
 name:bZ r.name=true
 keys:∀t,t∈r.ties->∀k,k∈t.2->ZG r k
 rounds:∀y,y∈r.rounds->ahO r y
def lS(listed:Array Bool)(I:List Nat):Array Bool:=I.foldl (fun l i=>l.setIfInBounds i true) listed
def PV(ops:Array Oper)(n0:Nat)(listed:Array Bool)(I:List Nat):Bool:=
 decide I.Nodup&&decide (listed.size=ops.size)&&
 I.all (fun i=>decide (i<n0)&&decide (i<ops.size)&& !listed.getD i true&&((ops[i]?).map (·.after.all fun e=> !Region.binds .any e||listed.getD e.on false)).getD false)&&
 (List.range ops.size).all (fun j=>listed.getD j true||I.contains j||((ops[j]?).map fun o=>(o.after.any fun e=>Region.binds .any e&& !listed.getD e.on false&& !I.contains e.on)||I.all (fun i=>o.after.any fun e=>Region.binds .any e&&e.on==i)).getD false)
theorem BX:∀(I:List Nat) (l:Array Bool),(lS l I).size=l.size/\∀j,(lS l I).getD j true=(l.getD j true||decide (j∈I))
 | [],l=>⟨rfl,fun j=>by simp[lS]⟩
 |i::I,l=>by
  obtain⟨h1,h2⟩:=BX I (l.setIfInBounds i true);refine⟨by simpa[lS]using h1,fun j=>?_⟩;have h3:=h2 j;simp only[lS,nq]at h3 |-;rw[h3];by_cases e:i=j;·subst e;by_cases hl:i<l.size<;>simp[hl]
  rw[getD_set_ne true e];have e2:¬j=i:=fun h=>e h.symm;simp[e2]
theorem XQ{a b:Array Bool}(hs:a.size=b.size)(h:∀j,a.getD j true=b.getD j true):a=b:=by apply ph hs;intro i d l;have:=h i;simpa[d,l]using this
theorem yP{D:Nat->Bool}{i:Nat}:∀{I:List Nat},I.Nodup->i∈I->D i=false->(I.filter fun j=> !D j).length=(I.filter fun j=> !(D j||decide (j=i))).length+1
 | [],_,h,_=>by cases h
 |k::I,hn,h,hd=>by
  have hn2:=ko.1 hn;by_cases e:k=i
  ·subst e;have key:(I.filter fun j=> !(D j||decide (j=k)))=I.filter fun j=> !D j:=by
    exact TN
   rw[jN (by simp[hd]),j0 po,key];rfl
  have ih:=yP (D:=D) hn2.2 ((cD.1 h).resolve_left (fun x=>e x.symm)) hd;cases d:D k<;>simp[d,e,ih]
section
variable {F:Fence}{n:Nat}{P:Program}{Mr:List Nat}{Q:Exit→Act→World→Prop}
theorem QN{I:List Nat}(Rel:(Nat->Bool)->World->Prop)(hok:PV ops n0 listed I=true)
 (hstep:∀i,i∈I->∀D W,D i=false->(∀j,D j=true->j∈I)->Rel D W->wpOpIn F n P ops Q i (fun a' w'=>a'=a/\Keeps Mr W w'/\Rel (fun j=>D j||decide (j=i)) w') a W)
 (hend:∀W,Rel (fun j=>decide (j∈I)) W->qh F n P Mr ops Q n0 f (lS listed I) a W):
 ∀(r:Nat) (D:Nat->Bool) (L:Array Bool) (W:World),(I.filter fun i=> !D i).length=r->(∀j,D j=true->j∈I)->L.size=listed.size->(∀j,L.getD j true=(listed.getD j true||D j))->Rel D W->qh F n P Mr ops Q n0 (f+r) L a W:=by
 simp only[PV,cS,ef]at hok;obtain⟨⟨⟨hnd,am⟩,hI⟩,hO⟩:=hok;have X:∀i,i∈I->i<n0/\i<ops.size/\listed.getD i true=false/\∃o,ops[i]?=some o/\∀e∈o.after,Region.binds .any e=true->listed.getD e.on false=true:=by intro i H;have h:=cT.1 hI i H;simp only[cS,ef,iu]at h;obtain⟨⟨⟨a1,a2⟩,a3⟩,a4⟩:=h;refine⟨a1,a2,a3,ops[i],ln a2,fun e G hb=>?_⟩;rw[ln a2]at a4;simp only[gw,eK,Array.all_eq_true_iff_forall_mem,ie]at a4;exact(a4 e G).resolve_left (by simp[hb])
 have ab:∀{L:Array Bool}{j:Nat},L.getD j false=true->j<L.size/\L.getD j true=true:=by
  intro L j h;by_cases O:j<L.size;·exact⟨O,by simpa[O]using h⟩
  simp[O]at h
 intro r
 induction r with
 |zero=>
  intro D L W Z E hs l hR;have ah:∀i,i∈I->D i=true:=fun i H=>by have:=List.filter_eq_nil_iff.1 (de.1 Z) i H;simpa using this
  have eD:D=fun j=>decide (j∈I):=by
   funext j;by_cases d:j∈I;·simp[d,ah j d]
   have:D j=false:=by
    cases e:D j with
    |false=>rfl
    |true=>exact absurd (E j e) d
   simp[d,this]
  subst eD;have eL:L=lS listed I:=XQ (by rw[(BX I listed).1,hs]) (fun j=>by rw[l,(BX I listed).2]);subst eL;exact hend W hR
 |succ r ih=>
  intro D L W Z E hs l hR;have af:∀{j:Nat},listed.getD j false=true->L.getD j false=true:=by intro j d;obtain⟨h1,h2⟩:=ab d;have h3:=l j;rw[h2]at h3;have h4:j<L.size:=pj;simpa[h4]using h3
  obtain⟨R,aa,ac⟩:∃i,i∈I/\D i=false:=by
   have ak:(I.filter fun i=> !D i)≠ []:=fun e=>by rw[e]at Z;simp at Z
   obtain⟨x,hx⟩:=List.exists_mem_of_ne_nil _ ak;rw[List.mem_filter]at hx;exact⟨x,hx.1,by simpa using hx.2⟩
  have al:∀j,j∈Region.ready .any ops L->j∈I/\D j=false:=by
   intro j d;rw[mem_ready]at d;obtain⟨h0,o,Y,T⟩:=d;have z:=l j;rw[h0]at z;have h1:listed.getD j true=false:=by
    cases e:listed.getD j true with
    |false=>rfl
    |true=>rw[e]at z;simp at z
   have h2:D j=false:=by
    cases e:D j with
    |false=>rfl
    |true=>rw[e]at z;simp at z
   by_cases ae:j∈I;·exact⟨ae,h2⟩
   exfalso;have aj:j<ops.size:=(cR.1 Y).1;have h:=cT.1 hO j (ga.2 aj);rw[h1,Y]at h;have hc:I.contains j=false:=by simpa using ae
   rw[hc]at h;simp only[jz,gw,eK,ie,Array.any_eq_true,cT,cS,iu]at h;rcases h with⟨k,N,⟨hb,O⟩,hc2⟩|h
   ·have s:=T _ (Array.getElem_mem N) hb;obtain⟨h6,y⟩:=ab s;rw[l]at y;have h8:listed.getD (o.after[k].on) true=false:=by
     have:o.after[k].on<listed.size:=pj;simpa[this]using O
    rw[h8,jz]at y;have:=E _ y;simp[this]at hc2
   obtain⟨k,N,hb,G⟩:=h R aa;have s:=T _ (Array.getElem_mem N) hb;have ai:o.after[k].on=R:=by simpa using G
   rw[ai]at s;have y:=(ab s).2;rw[l,(X R aa).2.2.1,ac]at y;simp at y
  unfold qh jQ;refine⟨fun e=>?_,fun i H=>?_⟩
  ·obtain⟨b1,b2,b3,o,Y,T⟩:=X R aa;have hm:R∈Region.ready .any ops L:=by
    rw[mem_ready];exact⟨by rw[l,b3,ac];rfl,o,Y,fun e G hb=>af (T e G hb)⟩
   rw[e]at hm;cases hm
  ·obtain⟨J,ad⟩:=al i H;refine⟨(X i J).1,wpOpIn_mono (fun a' w'=>?_) (hstep i J D W ad E hR)⟩;rintro⟨rfl,N,ag⟩;refine⟨N,?_⟩;have:=ih (fun j=>D j||decide (j=i)) (L.setIfInBounds i true) w' (by have:=yP hnd J ad;omega) (fun j d=>by
    simp only[ie,ef]at d;rcases d with d|rfl;·exact E j d
    ·exact J) (by simpa using hs) (fun j=>by
    by_cases e:i=j
    ·subst e;have s:i<L.size:=by have:=(X i J).2.1;omega
     simp[s]
    have e2:¬j=i:=fun h=>e h.symm;rw[getD_set_ne true e,l];simp[e2]) ag
   unfold qh at this;exact this
theorem ahP{w:World}(I:List Nat)(Rel:(Nat->Bool)->World->Prop)(h0:Rel (fun _=>false) w)
 (hstep:∀i,i∈I->∀D W,D i=false->(∀j,D j=true->j∈I)->Rel D W->wpOpIn F n P ops Q i (fun a' w'=>a'=a/\Keeps Mr W w'/\Rel (fun j=>D j||decide (j=i)) w') a W)
 (hend:∀W,Rel (fun j=>decide (j∈I)) W->qh F n P Mr ops Q n0 f listed' a W) (hok:PV ops n0 listed I=true:=by kernel_rfl) (hl:lS listed I=listed':=by kernel_rfl) (hg:g=f+I.length:=by exact rfl):qh F n P Mr ops Q n0 g listed a w:=by
 subst hl;subst hg;exact QN Rel hok hstep hend I.length (fun _=>false) listed w po (fun j d=>by cases d) rfl (fun j=>by simp) h0
end
theorem Ui{F:Fence}{n:Nat}{P:Program}{Q:Exit->Act->World->Prop}{W W':World}{y z:Operand}(ho:ops[i]?=some o)(hop:o.op=.insert t x y z)(hg:o.guard=none)(hd:o.dst=none)
 (hr:(Instr.mapUpdate t (a.eval x) (a.eval y) (a.eval z)).run P W=.ok () W') (hK:K a W'):wpOpIn F n P ops Q i K a W:=by
 have d:Oper.mild o=true:=by unfold Oper.mild;rw[hop]
 have I:Region.wanted o (yielded ops a.tmps)=true:=gQ hg;have hx:(execOp a.eval o).run P W=.ok .skip W':=by unfold execOp;rw[hop];simp[hr,Result.andThen]
 unfold Go.wpOpIn;simp only[ho,I,mf,Oper.wpIn,sF d,hx,Oper.uponIn];refine⟨jP d W _,?_⟩;have:a.put o.dst undef=a:=by rw[hd];rfl
 rw[this];exact hK
open Classical in
noncomputable def E8:List Value->Value->Option Nat
 | [],_=>none
 |x::r,v=>if v=x then some 0 else(E8 r v).map (· +1)
theorem CX:∀{vs:List Value}{v:Value}{i:Nat},E8 vs v=some i->vs[i]?=some v
 | [],_,_,h=>by cases h
 |x::r,v,i,h=>by
  unfold E8 at h;split at h;·rename_i e;cases h;rw[e];rfl
  cases e:E8 r v with
  |none=>rw[e]at h;cases h
  |some j=>rw[e]at h;cases h;exact(CX e:r[j]?=some v)
theorem xK:∀{vs:List Value}{v:Value},v∈vs->∃i,E8 vs v=some i
 |x::r,v,h=>by
  unfold E8;split;·exact⟨0,rfl⟩
  rename_i e;obtain⟨i,hi⟩:=xK ((cD.1 h).resolve_left e);exact⟨i+1,by rw[hi];rfl⟩
noncomputable def IZ (vs:List Value) (v:Value):Option (DataW Unit×List MemPlace):=(E8 vs v).map fun i=>(.lit (.int .i64 (i:Int)), [])
theorem xO{vs:List Value}{v:Value}{ps:List MemPlace}(h:IZ vs v=some (.lit (.int .i64 (i:Int)),ps))(hu:E8 vs u=some i):v=u:=by
 unfold IZ at h
 cases e:E8 vs v with
 |none=>rw[e]at h;cases h
 |some j=>rw[e]at h;injection h with h;injection h with h1 _;injection h1 with h1;injection h1 with _ h1;have:j=i:=pj;subst this;have a:=CX e;have b:=CX hu;rw[a]at b;exact fk b
abbrev sQ(k:Int):Lit:=.int .i64 k
theorem XV:Go.Maps.Keyed prog 3:=Go.Maps.int_keyed underlying3
theorem xP{k:Int}(h:i64 k):keyOf prog 3 k=some (sQ k):=Go.Maps.keyOf_int_mk underlying3 (l_ h)
def MV(vs:List Value)(w:World)(b n:Nat)(S:Int->Option Value):Prop:=∃D:DataW Unit,w.ownsMap prog 3 (IZ vs) b n D/\Go.Maps.IsMap D/\∀k,match S k with
  |none=>Go.Maps.has D (sQ k)=false/\∀z,D.atKey (sQ k) z=z
  |some v=>Go.Maps.has D (sQ k)=true/\∃i:Nat,E8 vs v=some i/\∀z,D.atKey (sQ k) z=.lit (.int .i64 (i:Int))
section
variable {vs:List Value}{w w':World}{b n:Nat}{S:Int→Option Value}
theorem MV.new(vs:List Value)(w:World):MV vs (w.alloc (.map #[] 0)) w.heap.size 0 (fun _=>none):=⟨_,World.ownsMap_made _ _ _ _,Go.Maps.isMap_empty,fun _=>⟨rfl,fun _=>rfl⟩⟩
theorem MV.lt(h:MV vs w b n S):b<w.heap.size:=by obtain⟨D,⟨s,l,d,-⟩,-⟩:=h;exact(cR.1 d).1
theorem MV.block(h:MV vs w b n S)(hb:w'.heap[b]?=w.heap[b]?):MV vs w' b n S:=by obtain⟨D,⟨l,d,s,y⟩,h3⟩:=h;exact⟨D,⟨l,d,hb.trans s,y⟩,h3⟩
theorem MV.go(h:MV vs w b n S)(hb:Below w w w'):MV vs w' b n S:=h.block (hb.block b h.lt)
theorem MV.store{t e:TypeId}(h:MV vs w b n S)(ht:prog.underlying t=some (.map 3 e)){k:Int}(hk:i64 k){v:Value}(hv:v∈vs)(hn:n<1000000):
 ∃w',(Instr.mapUpdate t (.map (some b)) k v).run prog w=.ok () w'/\MV vs w' b (n+1) (fun j=>if j=k then some v else S j)/\w.mapTurned w' b:=by
 obtain⟨D,y,l,E⟩:=h;obtain⟨i,s⟩:=xK hv;obtain⟨w',G,T,H⟩:=y.store XV ht (by unfold maxLen;omega) (xP hk) (show IZ vs v=some (.lit (.int .i64 (i:Int)), []) by unfold IZ;rw[s];rfl);refine⟨w',G,⟨_,T,l.put _ _,fun j=>?_⟩,H⟩;by_cases e:j=k;·subst e;simp only[mf];exact⟨Go.Maps.has_put_same (k:=sQ j) l trivial _,i,s,fun z=>Go.Maps.atKey_put_same (k:=sQ j) l trivial _ z⟩
 ·have O:sQ j≠sQ k:=fun h=>e (by injection h);have d:=E j;simp only[if_neg e];revert d;rw[Go.Maps.has_put_other O]
  cases S j with
  |none=>exact fun d=>⟨d.1,fun z=>(nj O _ z).trans (d.2 z)⟩
  |some u=>exact fun d=>⟨d.1,d.2.choose,d.2.choose_spec.1,fun z=>(nj O _ z).trans (d.2.choose_spec.2 z)⟩
theorem MV.look_ok{t e:TypeId}{z:Value}(h:MV vs w b n S)(ht:prog.underlying t=some (.map 3 e))(hz:(zeroValue e).run prog w=.ok z w)(hzv:z∈vs){k:Int}(hk:i64 k):
 (Instr.lookup t (.map (some b)) k true).run prog w=.ok (.tuple #[(S k).getD z,(S k).isSome]) w:=by
 obtain⟨D,H,J,I⟩:=h;obtain⟨i,l⟩:=xK hzv;obtain⟨v,N,s,T⟩:=H.look_ok XV ht hz (show IZ vs z=some (.lit (.int .i64 (i:Int)), []) by unfold IZ;rw[l];rfl) (xP hk);have d:=I k
 cases e:S k with
 |none=>rw[e]at d;rw[s,d.1];rw[d.2]at T;rw[xO T l];rfl
 |some u=>rw[e]at d;obtain⟨y,j,E,G⟩:=d;rw[s,y];rw[G]at T;rw[xO T E];rfl
theorem MV.look{e:TypeId}{z:Value}(h:MV vs w b n S)(ht:prog.underlying t=some (.map 3 e))(hz:(zeroValue e).run prog w=.ok z w)(hzv:z∈vs){k:Int}(hk:i64 k):
 (Instr.lookup t (.map (some b)) k false).run prog w=.ok ((S k).getD z) w:=by
 obtain⟨D,G,J,H⟩:=h;obtain⟨i,l⟩:=xK hzv;obtain⟨v,N,s,T⟩:=G.lookup XV ht hz (show IZ vs z=some (.lit (.int .i64 (i:Int)), []) by unfold IZ;rw[l];rfl) (xP hk);have d:=H k
 cases e:S k with
 |none=>rw[e]at d;rw[d.2]at T;rw[s,xO T l];rfl
 |some u=>rw[e]at d;obtain⟨I,j,y,E⟩:=d;rw[E]at T;rw[s,xO T y];rfl
end
def SE:List (Nat×Int×Value)->(Nat->Bool)->Int->Option Value
 | [],_,_=>none
 |e::r,D,j=>if D e.1=true/\j=e.2.1 then some e.2.2 else SE r D j
def qZ:List (Int×Value)->Int->Option Value
 | [],_=>none
 |e::r,j=>if j=e.1 then some e.2 else qZ r j
theorem P7:∀(E:List (Nat×Int×Value)),SE E (fun _=>false)=fun _=>none
 | []=>rfl
 |e::r=>by funext j;have:=congrFun (P7 r) j;simp[SE,this]
theorem UH:∀{E:List (Nat×Int×Value)}{D:Nat->Bool},(∀e,e∈E->D e.1=true)->SE E D=qZ (E.map fun e=>e.2)
 | [],_,_=>rfl
 |e::r,D,h=>by funext j;have h2:=congrFun (UH (E:=r) (D:=D) (fun x hx=>h x (bE _ hx))) j;simp only[SE,h e cw,true_and,eV,qZ,h2]
theorem UJ{D:Nat->Bool}{i:Nat}:∀{E:List (Nat×Int×Value)},(∀e,e∈E->e.1≠i)->SE E (fun j=>D j||decide (j=i))=SE E D
 | [],_=>rfl
 |e::r,h=>by funext j;have h2:=congrFun (UJ (D:=D) (E:=r) (fun x hx=>h x (bE _ hx))) j;have h3:=h e cw;simp[SE,h2,h3]
theorem P8{D:Nat->Bool}{i:Nat}{k:Int}{v:Value}:∀{E:List (Nat×Int×Value)},(E.map fun e=>e.1).Nodup->(E.map fun e=>e.2.1).Nodup->(i,k,v)∈E->
 (fun j=>if j=k then some v else SE E D j)=SE E (fun j=>D j||decide (j=i))
 |e::r,hi,hk,h=>by
  simp only[eV,ko]at hi hk;funext j;by_cases e0:e=(i,k,v);·subst e0;have h2:=congrFun (UJ (D:=D) (i:=i) (E:=r) (fun x hx e=>hi.1 (eE.2 ⟨x,hx,e⟩))) j;simp only[SE,h2,decide_true,Bool.or_true,true_and];by_cases hj:j=k<;>simp[hj]
  have hm:=(cD.1 h).resolve_left (fun x=>e0 x.symm);have n1:¬e.1=i:=fun x=>hi.1 (eE.2 ⟨_,hm,x.symm⟩);have n2:¬e.2.1=k:=fun x=>hk.1 (eE.2 ⟨_,hm,x.symm⟩);have h2:=congrFun (P8 (D:=D) hi.2 hk.2 hm) j;simp only[SE];rw[<-h2];by_cases hj:j=k;·subst hj;have n3:¬j=e.2.1:=fun x=>n2 x.symm;simp[n3]
  simp[hj,n1]
theorem CY{D:Nat->Bool}{i:Nat}:∀{I:List Nat},I.Nodup->i∈I->D i=false->(I.filter fun j=>D j||decide (j=i)).length=(I.filter fun j=>D j).length+1
 | [],_,h,_=>by cases h
 |k::I,hn,h,hd=>by
  have hn2:=ko.1 hn;by_cases e:k=i
  ·subst e;have key:(I.filter fun j=>D j||decide (j=k))=I.filter fun j=>D j:=by
    exact TN
   rw[jN po,j0 (by simp[hd]),key];rfl
  have ih:=CY (D:=D) hn2.2 ((cD.1 h).resolve_left (fun x=>e x.symm)) hd;cases d:D k;·rw[j0 (by simp[d,e]),j0 (by simp[d]),ih]
  rw[jN (by simp[d]),jN (by simp[d]),eh,eh,ih]
section
variable {F:Fence}{n:Nat}{Mr:List Nat}{Q:Exit→Act→World→Prop}
theorem Rf{w:World}(E:List (Nat×Int×Value))(vs:List Value)(mb:Nat){e:TypeId}(h0:MV vs w mb 0 (fun _=>none))
 (hend:∀W m,Below mb w W->MV vs W mb m (qZ (E.map fun e=>e.2))->qh F n prog Mr ops Q n0 f listed' a W) (ht:prog.underlying t=some (.map 3 e)) (hx:a.eval x=.map (some mb)) (hM:mb∈Mr)
 (hv:∀e,e∈E->e.2.2∈vs/\i64 e.2.1) (hi:(E.map fun e=>e.1).Nodup) (hk:(E.map fun e=>e.2.1).Nodup) (hE:E.length<=1000)
 (hops:∀e,e∈E->∃o y z,ops[e.1]?=some o/\o.op=.insert t x y z/\o.guard=none/\o.dst=none/\a.eval y=e.2.1/\a.eval z=e.2.2)
 (hok:PV ops n0 listed (E.map fun e=>e.1)=true:=by kernel_rfl) (hl:lS listed (E.map fun e=>e.1)=listed':=by((try simp only[lS,eV,ia,nq,List.foldl_nil,eN,fq,eM]);(first|done|exact rfl))) (hg:g=f+E.length:=by exact rfl):qh F n prog Mr ops Q n0 g listed a w:=by
 refine ahP (E.map fun e=>e.1) (fun D W=>Below mb w W/\MV vs W mb ((E.map fun e=>e.1).filter fun j=>D j).length (SE E D)) ⟨bL _ _,?_⟩ ?_ ?_ hok hl (by rw[ck];exact hg);·rw[P7,show((E.map fun e=>e.1).filter fun _=>false)= [] by simp];exact h0
 ·intro i G D W O _ d;obtain⟨⟨i',k,v⟩,hm,rfl⟩:=eE.1 G;obtain⟨o,y,z,Z,aa,X,R,I,J⟩:=hops _ hm;obtain⟨ab,Y⟩:=hv _ hm;have N:=CY (D:=D) hi G O;have ac:((E.map fun e=>e.1).filter fun j=>D j).length<=1000:=cF (List.length_filter_le _ _) (by simpa using hE);obtain⟨W',r1,mv,H⟩:=d.2.store ht Y ab pj;refine Ui Z aa X R (W':=W') (by rw[hx,I,J];exact r1) ⟨rfl,(cG Mr W).grown H.grown (fun q l=>.inl (by cases l;exact hM)),d.1.grown H.grown (cY d.2.lt) (fun q l=>by cases l;exact bj _),?_⟩;rw[N,<-P8 hi hk hm];exact mv
 ·intro W d;have s:=d.2;rw[UH (fun e T=>by simp only[ef];exact eE.2 ⟨e,T,rfl⟩)]at s;exact hend W _ d.1 s
end
