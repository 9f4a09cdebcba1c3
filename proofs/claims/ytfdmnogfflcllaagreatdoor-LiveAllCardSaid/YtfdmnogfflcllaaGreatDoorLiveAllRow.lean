/- LiveAll, proved: for every input the law returns true, and each argument reads as it did. No condition but the ties of the card. -/
import Derived.Test.YtfdmnogfflcllaaGreatDoorTie
import Derived.Test.YtfdmnogfflcllaaGreatDoorCards
import Derived.LaidMore
import Derived.Stop.LaidErr
import Derived.Test.YtfdmnogfflcllaaGreatDoorM40
set_option linter.all false
set_option maxRecDepth 100000
set_option maxHeartbeats 0
namespace Go.Proofs.YtfdmnogfflcllaaGreatDoor
open Go.Proofs.Tryz
section
open Go.ChangeShapes Go.WideShapes Go.ChangeAt Go.RowKit Go.Deep Go.Joins
section
set_option maxRecDepth 100000
theorem own:ownKnob prog.godebug=none:=pk
theorem laidOut:laidOutB prog=true:=pk
theorem jU:Opens Int prog 3:=QU underlying3
theorem wM:Opens ByteArray prog 9:=IL underlying9
theorem uS:Opens (List Int) prog 26:=iI underlying26 pk py jU
theorem Zp:Opens bT prog 59:=fG underlying59 pk (aX rfl pk wM (aX rfl pk jU (aX rfl pk jU (aX rfl pk jU (aX rfl pk jU (aX rfl pk jU (iL rfl pk (qP underlying4))))))))
theorem Zq:Opens bW prog 156:=fG underlying156 pk (aX rfl pk wM (aX rfl pk jU (iL rfl pk jU)))
theorem ahG:Opens bK prog 113:=fG underlying113 pk (aX rfl pk jU (aX rfl pk wM (iL rfl pk jU)))
theorem ahH:Opens dA prog 142:=fG underlying142 pk (aX rfl pk wM (iL rfl pk (iI underlying110 pk py ahG)))
theorem Zr:Opens aU prog 66:=NH underlying66 pk py ⟨rfl,rfl,rfl,rfl,rfl⟩ ⟨pk,pk,pk,pk,pk⟩ underlying3 underlying9 underlying3 underlying3 underlying64
theorem Xy:Opens aJ prog 68:=fG underlying68 pk (aX rfl pk wM (aX rfl pk jU (aX rfl pk jU (aX rfl pk jU (aX rfl pk (qP underlying4) (aX rfl pk (qP underlying4) (aX rfl pk Zr (aX rfl pk wM (iL rfl pk jU)))))))))
theorem Xz:Opens lG prog 46:=fG underlying46 pk (aX rfl pk (qP underlying4) (iL rfl pk uS))
theorem ahI:Opens fC prog 48:=fG underlying48 pk (aX rfl pk Xz (iL rfl pk Xz))
abbrev ajZ:=ByteArray×List bT×List bW×List bW×List dA×List aJ×List Int×List Int×Int
abbrev aj0:=List (List Int)×List Int×List Int×List fC
theorem Nq:Opens (List bW) prog 23:=iI underlying23 pk py Zq
theorem XA:Opens ajZ prog 28:=fG underlying28 pk (aX rfl pk wM (aX rfl pk (iI underlying22 pk py Zp) (aX rfl pk Nq (aX rfl pk Nq (aX rfl pk (iI underlying24 pk py ahH) (aX rfl pk (iI underlying25 pk py Xy) (aX rfl pk uS (aX rfl pk uS (iL rfl pk jU)))))))))
theorem Zt:Opens aj0 prog 42:=fG underlying42 pk (aX rfl pk (iI underlying40 pk py uS) (aX rfl pk uS (aX rfl pk uS (iL rfl pk (iI underlying37 pk py ahI)))))
theorem afM:Opens (List aL) prog 29:=iI underlying29 pk py Zt
section
variable {H:Type}{enc:TypeId×Value→H}{W:World}{v:Value}{d:DataW H}{p:List MemPlace}{b:Nat}
theorem Uc(hv:Value.okWide prog W .any b 28 v)(h:DataW.Trod enc prog W 0 (fun _=>true) true 28 v d p)(hw:∀n,n∈d.weights prog 28->n<=reachBytes):
 ∃r s1 s2 s3 s4 s5 s6 s7,v=.agg (aV r s1 s2 s3 s4 s5 s6 s7).toArray/\dG W [] r s1 s2 s3 s4 s5 s6 s7:=by
 obtain⟨cs,rfl,i⟩:=okWide_struct underlying28 hv;obtain⟨f,P⟩:=h;rw[show(Value.cells (.agg cs)).toList=cs.toList from rfl]at P;obtain⟨x,hx⟩:=XA H enc W true f _ d p P hw;obtain⟨_,_,e,V,_,_,rfl,⟨a,g,G,rfl,D⟩,_,_,rfl,⟨A2,n2,c2,rfl,g2⟩,_,_,rfl,⟨A3,n3,c3,rfl,g3⟩,_,_,rfl,⟨A4,n4,c4,rfl,g4⟩,_,_,rfl,⟨A5,n5,c5,rfl,g5⟩,_,_,rfl,⟨A6,n6,c6,rfl,g6⟩,_,_,rfl,⟨A7,n7,c7,rfl,g7⟩,⟨rfl,h8⟩⟩:=hx;have c:_=_:=V;subst c;exact⟨⟨x.1,x.2.1,x.2.2.1,x.2.2.2.1,x.2.2.2.2.1,x.2.2.2.2.2.1,x.2.2.2.2.2.2.1,x.2.2.2.2.2.2.2.1,x.2.2.2.2.2.2.2.2⟩,⟨a,g,G⟩,⟨A2,n2,c2⟩,⟨A3,n3,c3⟩,⟨A4,n4,c4⟩,⟨A5,n5,c5⟩,⟨A6,n6,c6⟩,⟨A7,n7,c7⟩,gT Value.agg (od.1 e),D,g2,g3,g4,g5,g6,g7,h8⟩
theorem Zu(hv:Value.okWide prog W .any b 3 v)(h:DataW.Trod enc prog W 0 (fun _=>true) true 3 v d p):∃x:Int,v=x/\i64 x:=by obtain⟨x,rfl,-,-,a⟩:=open_int underlying3 hv h;exact⟨x,rfl,wf_i64 a⟩
theorem ae2(hv:Value.okWide prog W .any b 29 v)(h:DataW.Trod enc prog W 0 (fun _=>true) true 29 v d p)(hw:∀n,n∈d.weights prog 29->n<=reachBytes):
 ∃A n c xs,v=.slice A n c/\Sl aL W [] A n c xs:=by
 obtain⟨A,n,c,rfl⟩:=okWide_slice underlying29 hv;obtain⟨a,f⟩:=h;obtain⟨xs,g,n',i,e,hs⟩:=afM H enc W true a _ d p f hw;simp[Value.cells]at e;obtain⟨rfl,rfl,rfl⟩:=e;exact⟨A,n,c,xs,rfl,hs⟩
end
end
end
section
section
set_option maxRecDepth 100000
theorem aej:((Rows.liveAllRow.inPlace==prog.inPlace 3))=true:=pk
theorem adP:((Rows.liveAllRow.named==prog.varsNamed 3))=true:=pk
end
section
set_option maxRecDepth 100000
theorem adQ:((Rows.liveAllRow.unfollowed==prog.unfollowed 3))=true:=pk
theorem adR:((Rows.liveAllRow.recurses==prog.recurses 3))=true:=pk
end
section
set_option maxRecDepth 100000
theorem gB{a b:Bool}(h:a=true)(k:b=true):(a&&b)=true:=by rw[h,k];rfl
theorem kr{p:Prop}(h:p:=by kernel_rfl):p:=h
theorem acF:joinedFacts prog 3 f3 Rows.liveAllSpec Rows.liveAllRow=true:=by unfold joinedFacts;exact gB (gB (gB (gB (gB (gB (gB (gB (gB (gB (gB (gB (gB (gB (gB (gB (gB (gB (gB (gB (gB (gB (gB (gB (gB (gB (gB (gB (gB (gB (gB kr kr) kr) kr) kr) kr) kr) kr) kr) aej) adQ) adR) adP) kr) kr) kr) kr) kr) kr) kr) kr) kr) kr) kr) kr) kr) kr) kr) kr) kr) kr) kr
end
open Go.ChangeShapes Go.WideShapes Go.ChangeAt Go.RowKit
section
set_option maxRecDepth 100000
theorem door_met(os:Os)(args:Array Value):laidMetH prog Rows.liveAllRow.laid ((World.doorLaid prog 400 os).forCall (fun _ _=>0) ⟨#[],args, []⟩).memory:=laidMetH_of_parts3 (fuel:=8) (laidMet_of_run' 8 pk pk) pk pk
theorem ahJ{W:World}(h:laidMetH prog Rows.liveAllRow.laid W):Tab W:=by rw[MakeChecks.laidMetH_plain _ _ _ pk]at h;exact Lib.tabIs_of_head (t:=326) (e:=5) (g:=0) (n:=256) (rest:= []) pk pk underlying326 underlying5 pk pk (laidMet.tail h)
theorem acG(os:Os)(started:os.Started)(H:Type)(enc:TypeId×Value->H):
 ReturnsInHanded {} checked os 3 .any (fun w args=>(Rows.liveAllSpec.pre enc prog f3 [] false w args/\laidMetH prog Rows.liveAllRow.laid w)/\sizedMet enc prog f3 (OpenSpec.ofChange Rows.liveAllSpec) false w args) (Rows.liveAllSpec.post enc prog f3 false true false false):=by
 refine returnsInHanded_of_change_and (C:=checked) (X:=fun w _=>laidMetH prog Rows.liveAllRow.laid w) (fun _ _ _ N h=>h.of_heap N) own started pk func3 (ChangeSpec.witness_shaped (enc:=enc) (C:=checked) (os:=os) (X:=fun w _=>laidMetH prog Rows.liveAllRow.laid w) false (World.doorLaid prog 400 os) #[.agg #[.string ⟨#[]⟩,.slice none 0 0,.slice none 0 0,.slice none 0 0,.slice none 0 0,.slice none 0 0,.slice none 0 0,.slice none 0 0,.int .i64 0],.int .i64 0,.slice none 0 0,.int .i64 0] 8 rfl (World.shaped_of_RefB pk pk) pk pk pk (door_met os _)) ?_;intro W B args f I aa z c _ u J _;have r:(DataW.weightsEach prog (f3.params.toList++Rows.liveAllSpec.plain.varTypes prog) (f++I)).all (· <=reachBytes)=true:=u;have a:∀(j:Nat) t v,f3.params[j]?=some t->args[j]?=some v->Value.okWide prog W .any B t v:=z;have m:=c;have o:=c.lt;obtain⟨p,q,l,K,rfl,ab,hnd⟩:=c;have k:DataW.TrodAll enc prog W 0 (fun _=>true) true f3.params.toList args.toList f p:=l;rw[params3]at k a r;obtain⟨v0,v1,v2,v3,D,E,F,G,R,S,T,Y,rfl,rfl,rfl,V,g,i,s⟩:=trodAll_four k;obtain⟨rfl,rfl⟩:=trodVars_none K;clear l z u;have A:∀(j:Nat) (t:TypeId) (d:DataW H), [28,3,29,3][j]?=some t-> [D,E,F,G][j]?=some d->∀n,n∈d.weights prog t->n<=reachBytes:=by
  intro j t d y L n O;have:=cT.1 r n (nv (j:=j) (by
   rw[dk (bu.1 y).1];exact y) (by
   rw[dx];exact L) n O)
  simpa using this
 obtain⟨r0,ae,af,ag,ah,ai,aj,ak,rfl,P⟩:=Uc (a 0 _ _ rfl rfl) V (A 0 _ _ rfl rfl);obtain⟨x1,rfl,ac⟩:=Zu (a 1 _ _ rfl rfl) g;obtain⟨Z,n2,c2,al,rfl,Q⟩:=ae2 (a 2 _ _ rfl rfl) i (A 2 _ _ rfl rfl);obtain⟨x3,rfl,ad⟩:=Zu (a 3 _ _ rfl rfl) s;simp only[dx]at m o;refine(adl P Q (ahJ J)).mono fun e W' ⟨M,hb⟩=>?_;subst M;refine⟨_,rfl,_,_,_, [],R++(S++(T++Y)), [],m,trodAll_mk1 (shut_bool underlying4 true),?_,rfl,hb.frame _,fun h=>by cases h⟩;exact trodAll_mk4 (hb.trod laidOut pk py V (fun x hx=>o x (by simp[hx]))) (hb.trod laidOut pk py g (fun x hx=>o x (by simp[hx]))) (hb.trod laidOut pk py i (fun x hx=>o x (by simp[hx]))) (hb.trod laidOut pk py s (fun x hx=>o x (by simp[hx])))
end
section
set_option maxRecDepth 100000
theorem adS:Rows.LiveAllSaid:=
 OpenClaim.holds_of_wide 3 f3 rfl rfl rfl rfl rfl rfl rfl ⟨rfl,rfl,rfl,rfl,rfl⟩ rfl rfl rfl rfl rfl pk func3 acF
  (cW pk) (by unfold Func.isWrapper;rw[if_neg (gp pk)];exact⟨rfl,rfl⟩)
  (fun os started H enc _=>acG os started H enc)
end
end
open Go.ChangeShapes Go.WideShapes Go.ChangeAt Go.RowKit
theorem liveAll_holds:Rows.LiveAllCardSaid:=
 Claim7.holds_tied_plain_at .later [] [.listed,.data] true (true, "21704342a0bd7114003718951d2c724173e080f90d29aae8016a95908552d5e3") true
  adS (fun _ h=>by cases h) pk (fun _ h=>by cases h) liveAll_row_tie rfl ⟨rfl,rfl⟩ pk rfl
  (fun f fn hf hfn=>by obtain rfl:f=3:=fk ((show prog.funcNamed "podium/podiumlaw45.LiveAll" =some 3 by kernel_rfl).symm.trans hf) |>.symm;obtain rfl:fn=f3:=(fk (func3.symm.trans hfn)).symm;exact⟨pk,fun j t ht=>by
     rw[params3]at ht;have hm:t∈ [28,3,29,3]:=by simpa using Array.mem_of_getElem? ht
     have a:([28,3,29,3].all fun u=> !prog.wantsStandIn u)=true:=pk;exact(show prog.wantsStandIn t=false by simpa using cT.1 a t hm)⟩)
  pk
