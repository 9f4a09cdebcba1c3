/- Lemmas. -/
import Derived.Test.YtfdmnogfflcllaaGreatDoorRows
import Derived.JoinedOf
import Derived.Test.YtfdmnogfflcllaaGreatDoorTie
import Derived.Test.YtfdmnogfflcllaaGreatDoorCards
import Derived.LaidMore
import Derived.Stop.Joined
import Derived.Stop.LaidErr
import Derived.SevenTiedAt
import Derived.Test.YtfdmnogfflcllaaGreatDoorM52
set_option linter.unusedVariables false
set_option linter.unusedSimpArgs false
set_option maxRecDepth 100000
set_option maxHeartbeats 20000000
namespace Go.Proofs.YtfdmnogfflcllaaGreatDoor
open Go.Proofs.Tryz
section
open Go.ChangeShapes Go.WideShapes Go.ChangeAt Go.RowKit Go.Deep Go.Joins
section
set_option maxRecDepth 100000
theorem own:ownKnob prog.godebug=none:=oF
theorem laidOut:laidOutB prog=true:=oF
theorem jU:Opens Int prog 3:=QU underlying3
theorem wM:Opens ByteArray prog 9:=IL underlying9
theorem uS:Opens (List Int) prog 26:=iI underlying26 oF oT jU
theorem Zp:Opens bT prog 59:=fG underlying59 oF (aX rfl oF wM (aX rfl oF jU (aX rfl oF jU (aX rfl oF jU (aX rfl oF jU (aX rfl oF jU (iL rfl oF (qP underlying4))))))))
theorem Zq:Opens bW prog 156:=fG underlying156 oF (aX rfl oF wM (aX rfl oF jU (iL rfl oF jU)))
theorem ahk:Opens bK prog 113:=fG underlying113 oF (aX rfl oF jU (aX rfl oF wM (iL rfl oF jU)))
theorem ahl:Opens dA prog 142:=fG underlying142 oF (aX rfl oF wM (iL rfl oF (iI underlying110 oF oT ahk)))
theorem Zr:Opens aU prog 66:=NH underlying66 oF oT ⟨rfl,rfl,rfl,rfl,rfl⟩ ⟨oF,oF,oF,oF,oF⟩ underlying3 underlying9 underlying3 underlying3 underlying64
theorem Xy:Opens aJ prog 68:=fG underlying68 oF (aX rfl oF wM (aX rfl oF jU (aX rfl oF jU (aX rfl oF jU (aX rfl oF (qP underlying4) (aX rfl oF (qP underlying4) (aX rfl oF Zr (aX rfl oF wM (iL rfl oF jU)))))))))
theorem Xz:Opens lG prog 46:=fG underlying46 oF (aX rfl oF (qP underlying4) (iL rfl oF uS))
theorem ahm:Opens fC prog 48:=fG underlying48 oF (aX rfl oF Xz (iL rfl oF Xz))
abbrev ajy:=ByteArray×List bT×List bW×List bW×List dA×List aJ×List Int×List Int×Int
abbrev ajz:=List (List Int)×List Int×List Int×List fC
theorem Nq:Opens (List bW) prog 23:=iI underlying23 oF oT Zq
theorem XA:Opens ajy prog 28:=fG underlying28 oF (aX rfl oF wM (aX rfl oF (iI underlying22 oF oT Zp) (aX rfl oF Nq (aX rfl oF Nq (aX rfl oF (iI underlying24 oF oT ahl) (aX rfl oF (iI underlying25 oF oT Xy) (aX rfl oF uS (aX rfl oF uS (iL rfl oF jU)))))))))
theorem Zt:Opens ajz prog 42:=fG underlying42 oF (aX rfl oF (iI underlying40 oF oT uS) (aX rfl oF uS (aX rfl oF uS (iL rfl oF (iI underlying37 oF oT ahm)))))
theorem afu:Opens (List aM) prog 29:=iI underlying29 oF oT Zt
section
variable {H:Type}{enc:TypeId×Value→H}{W:World}{v:Value}{d:DataW H}{p:List MemPlace}{b:Nat}
theorem Uc(hv:Value.okWide prog W .any b 28 v)(h:DataW.Trod enc prog W 0 (fun _=>true) true 28 v d p)(hw:∀n,n∈d.weights prog 28->n<=reachBytes):
 ∃r s1 s2 s3 s4 s5 s6 s7,v=.agg (aV r s1 s2 s3 s4 s5 s6 s7).toArray/\dG W [] r s1 s2 s3 s4 s5 s6 s7:=by
 obtain⟨cs,rfl,i⟩:=okWide_struct underlying28 hv;obtain⟨f,O⟩:=h;rw[show(Value.cells (.agg cs)).toList=cs.toList from rfl]at O;obtain⟨x,hx⟩:=XA H enc W true f _ d p O hw;obtain⟨_,_,e,R,_,_,rfl,⟨a,g,C,rfl,E⟩,_,_,rfl,⟨A2,n2,c2,rfl,g2⟩,_,_,rfl,⟨A3,n3,c3,rfl,g3⟩,_,_,rfl,⟨A4,n4,c4,rfl,g4⟩,_,_,rfl,⟨A5,n5,c5,rfl,g5⟩,_,_,rfl,⟨A6,n6,c6,rfl,g6⟩,_,_,rfl,⟨A7,n7,c7,rfl,g7⟩,⟨rfl,h8⟩⟩:=hx;have c:_=_:=R;subst c;exact⟨⟨x.1,x.2.1,x.2.2.1,x.2.2.2.1,x.2.2.2.2.1,x.2.2.2.2.2.1,x.2.2.2.2.2.2.1,x.2.2.2.2.2.2.2.1,x.2.2.2.2.2.2.2.2⟩,⟨a,g,C⟩,⟨A2,n2,c2⟩,⟨A3,n3,c3⟩,⟨A4,n4,c4⟩,⟨A5,n5,c5⟩,⟨A6,n6,c6⟩,⟨A7,n7,c7⟩,gM Value.agg (mj.1 e),E,g2,g3,g4,g5,g6,g7,h8⟩
theorem Zu(hv:Value.okWide prog W .any b 3 v)(h:DataW.Trod enc prog W 0 (fun _=>true) true 3 v d p):∃x,v=.int .i64 x/\i64 x:=by obtain⟨x,rfl,-,-,a⟩:=open_int underlying3 hv h;exact⟨x,rfl,wf_i64 a⟩
theorem ac8(hv:Value.okWide prog W .any b 5 v)(h:DataW.Trod enc prog W 0 (fun _=>true) true 5 v d p):∃x,v=.int .u8 x/\0<=x/\x<=255:=by obtain⟨x,rfl,-,-,a⟩:=open_int underlying5 hv h;have:=bounds_u8 a;exact⟨x,rfl,oE,oE⟩
theorem aeJ(hv:Value.okWide prog W .any b 29 v)(h:DataW.Trod enc prog W 0 (fun _=>true) true 29 v d p)(hw:∀n,n∈d.weights prog 29->n<=reachBytes):
 ∃A n c xs,v=.slice A n c/\Sl aM W [] A n c xs:=by
 obtain⟨A,n,c,rfl⟩:=okWide_slice underlying29 hv;obtain⟨a,f⟩:=h;obtain⟨xs,g,n',i,e,hs⟩:=afu H enc W true a _ d p f hw;simp[Value.cells]at e;obtain⟨rfl,rfl,rfl⟩:=e;exact⟨A,n,c,xs,rfl,hs⟩
end
end
end
section
section
set_option maxRecDepth 100000
theorem ac9:((Rows.liveKnownRow.inPlace==prog.inPlace 4))=true:=oF
theorem acB:((Rows.liveKnownRow.named==prog.varsNamed 4))=true:=oF
end
section
set_option maxRecDepth 100000
theorem acC:((Rows.liveKnownRow.unfollowed==prog.unfollowed 4))=true:=oF
theorem acD:((Rows.liveKnownRow.recurses==prog.recurses 4))=true:=oF
end
section
set_option maxRecDepth 100000
theorem gB{a b:Bool}(h:a=true)(k:b=true):(a&&b)=true:=by rw[h,k];rfl
theorem kr{p:Prop}(h:p:=by kernel_rfl):p:=h
theorem abP:joinedFacts prog 4 f4 Rows.liveKnownSpec Rows.liveKnownRow=true:=by unfold joinedFacts;exact gB (gB (gB (gB (gB (gB (gB (gB (gB (gB (gB (gB (gB (gB (gB (gB (gB (gB (gB (gB (gB (gB (gB (gB (gB (gB (gB (gB (gB (gB (gB kr kr) kr) kr) kr) kr) kr) kr) kr) ac9) acC) acD) acB) kr) kr) kr) kr) kr) kr) kr) kr) kr) kr) kr) kr) kr) kr) kr) kr) kr) kr) kr
end
open Go.ChangeShapes Go.WideShapes Go.ChangeAt Go.RowKit
section
set_option maxRecDepth 100000
theorem door_met(os:Os)(args:Array Value):laidMetH prog Rows.liveKnownRow.laid ((World.doorLaid prog 400 os).forCall (fun _ _=>0) ⟨#[],args, []⟩).memory:=laidMetH_of_parts3 (fuel:=8) (laidMet_of_run' 8 oF oF) oF oF
theorem ahn{W:World}(h:laidMetH prog Rows.liveKnownRow.laid W):Tab W:=by rw[MakeChecks.laidMetH_plain _ _ _ oF]at h;exact Lib.tabIs_of_head (t:=326) (e:=5) (g:=0) (n:=256) (rest:= []) oF oF underlying326 underlying5 oF oF (laidMet.tail h)
theorem abQ(os:Os)(started:os.Started)(H:Type)(enc:TypeId×Value->H):
 ReturnsInHanded {} checked os 4 .any (fun w args=>(Rows.liveKnownSpec.pre enc prog f4 [] false w args/\laidMetH prog Rows.liveKnownRow.laid w)/\sizedMet enc prog f4 (OpenSpec.ofChange Rows.liveKnownSpec) false w args) (Rows.liveKnownSpec.post enc prog f4 false true false false):=by
 refine returnsInHanded_of_change_and (C:=checked) (X:=fun w _=>laidMetH prog Rows.liveKnownRow.laid w) (fun _ _ _ Y h=>h.of_heap Y) own started oF func4 (ChangeSpec.witness_shaped (enc:=enc) (C:=checked) (os:=os) (X:=fun w _=>laidMetH prog Rows.liveKnownRow.laid w) false (World.doorLaid prog 400 os) #[.agg #[.string ⟨#[]⟩,.slice none 0 0,.slice none 0 0,.slice none 0 0,.slice none 0 0,.slice none 0 0,.slice none 0 0,.slice none 0 0,.int .i64 0],.int .i64 0,.slice none 0 0,.int .u8 0,.int .u8 0,.int .u8 0,.int .u8 0] 8 rfl (World.shaped_of_RefB oF oF) oF oF oF (door_met os _)) ?_;intro W E args f O ag z c _ y P _;have u:(DataW.weightsEach prog (f4.params.toList++Rows.liveKnownSpec.plain.varTypes prog) (f++O)).all (· <=reachBytes)=true:=y;have a:∀(j:Nat) t v,f4.params[j]?=some t->args[j]?=some v->Value.okWide prog W .any E t v:=z;have s:=c;have o:=c.lt;obtain⟨p,q,m,Q,rfl,ao,hnd⟩:=c;have l:DataW.TrodAll enc prog W 0 (fun _=>true) true f4.params.toList args.toList f p:=m;rw[params4]at l a u;obtain⟨v0,az,F,ah,p0,q0,T,rfl,rfl,R,B⟩:=trodAll_cons l;obtain⟨v1,aA,G,ai,p1,q1,rfl,rfl,rfl,g,r1⟩:=trodAll_cons B;obtain⟨v2,aB,I,aj,p2,q2,rfl,rfl,rfl,i,r2⟩:=trodAll_cons r1;obtain⟨v3,aC,J,ak,p3,q3,rfl,rfl,rfl,r,r3⟩:=trodAll_cons r2;obtain⟨v4,aD,L,al,p4,q4,rfl,rfl,rfl,D,r4⟩:=trodAll_cons r3;obtain⟨v5,aE,M,am,p5,q5,rfl,rfl,rfl,K,r5⟩:=trodAll_cons r4;obtain⟨v6,aF,N,an,p6,q6,rfl,rfl,rfl,k,r6⟩:=trodAll_cons r5;obtain⟨rfl,rfl,rfl⟩:=trodAll_nil r6;obtain rfl:args=#[v0,v1,v2,v3,v4,v5,v6]:=by apply mj.1;rw[T]
 obtain⟨rfl,rfl⟩:=trodVars_none Q;clear m z y;have A:∀(j:Nat) (t:TypeId) (d:DataW H), [28,3,29,5,5,5,5][j]?=some t-> [F,G,I,J,L,M,N][j]?=some d->∀n,n∈d.weights prog t->n<=reachBytes:=by
  intro j t d S U n Z;have:=cQ.1 u n (mI (j:=j) (by
   rw[di (bj.1 S).1];exact S) (by
   rw[ef];exact U) n Z)
  simpa using this
 obtain⟨B,aq,ar,au,av,aw,ax,ay,rfl,aa⟩:=Uc (a 0 _ _ rfl rfl) R (A 0 _ _ rfl rfl);obtain⟨x1,rfl,ap⟩:=Zu (a 1 _ _ rfl rfl) g;obtain⟨A2,n2,c2,aG,rfl,ab⟩:=aeJ (a 2 _ _ rfl rfl) i (A 2 _ _ rfl rfl);obtain⟨x3,rfl,ac⟩:=ac8 (a 3 _ _ rfl rfl) r;obtain⟨x4,rfl,ad⟩:=ac8 (a 4 _ _ rfl rfl) D;obtain⟨x5,rfl,ae⟩:=ac8 (a 5 _ _ rfl rfl) K;obtain⟨x6,rfl,af⟩:=ac8 (a 6 _ _ rfl rfl) k;simp only[ef]at s o;refine(acv aa ab (ahn P) ac ad ae af).mono fun e W' ⟨V,hb⟩=>?_;subst V;refine⟨_,rfl,_,_,_, [],p0++(p1++(p2++(p3++(p4++(p5++(p6++ [])))))), [],s,trodAll_mk1 (shut_bool underlying4 true),?_,rfl,hb.frame _,fun h=>by cases h⟩;exact trodAll_cons_mk (hb.trod laidOut oF oT R (fun x hx=>o x (by simp[hx]))) (trodAll_cons_mk (hb.trod laidOut oF oT g (fun x hx=>o x (by simp[hx]))) (trodAll_cons_mk (hb.trod laidOut oF oT i (fun x hx=>o x (by simp[hx]))) (trodAll_cons_mk (hb.trod laidOut oF oT r (fun x hx=>o x (by simp[hx]))) (trodAll_cons_mk (hb.trod laidOut oF oT D (fun x hx=>o x (by simp[hx]))) (trodAll_cons_mk (hb.trod laidOut oF oT K (fun x hx=>o x (by simp[hx]))) (trodAll_cons_mk (hb.trod laidOut oF oT k (fun x hx=>o x (by simp[hx]))) trodAll_mk0))))))
end
section
set_option maxRecDepth 100000
theorem acE:Rows.LiveKnownSaid:=
 OpenClaim.holds_of_wide 4 f4 rfl rfl rfl rfl rfl rfl rfl ⟨rfl,rfl,rfl,rfl,rfl⟩ rfl rfl rfl rfl rfl oF func4 abP
  (cW oF) (by unfold Func.isWrapper;rw[if_neg (fW oF)];exact⟨rfl,rfl⟩)
  (fun os started H enc _=>abQ os started H enc)
end
end
