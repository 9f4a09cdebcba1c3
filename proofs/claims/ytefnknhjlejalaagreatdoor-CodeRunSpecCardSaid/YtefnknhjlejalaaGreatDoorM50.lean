/- Lemmas and walks; no statement is proved here. -/
import Derived.Test.YtefnknhjlejalaaGreatDoorRows
import Derived.JoinedOf
import Derived.Test.YtefnknhjlejalaaGreatDoorTie
import Derived.Test.YtefnknhjlejalaaGreatDoorCards
import Derived.LaidMore
import Derived.Stop.Joined
import Derived.Stop.LaidErr
import Derived.SevenTiedAt
import Derived.Test.YtefnknhjlejalaaGreatDoorM49
set_option linter.unusedVariables false
set_option linter.unusedSimpArgs false
set_option maxRecDepth 20000
set_option maxHeartbeats 6000000
namespace Go.Proofs.YtefnknhjlejalaaGreatDoor
open Go.Proofs.Tryz
theorem afd{p:Prop}(h:p:=by simp[Value.cells]at e;obtain⟨rfl,rfl,rfl⟩:=e;exact⟨A,n,c,xs,rfl,hs⟩):p:=h
section
open Go.ChangeShapes Go.WideShapes Go.ChangeAt Go.RowKit Go.Deep Go.Joins
section
set_option maxRecDepth 100000
theorem own:ownKnob prog.godebug=none:=by kernel_rfl
theorem laidOut:laidOutB prog=true:=by kernel_rfl
theorem FK:Opens (List Int) prog 26:=iI underlying26 (by kernel_rfl) (by decide+kernel) (QU underlying3)
theorem Ba:Opens lG prog 28:=fG underlying28 (by kernel_rfl) (aX rfl (by kernel_rfl) (qP underlying4) (iL rfl (by kernel_rfl) FK))
theorem Bc:Opens RatR prog 30:=fG underlying30 (by kernel_rfl) (aX rfl (by kernel_rfl) Ba (iL rfl (by kernel_rfl) Ba))
theorem Na:Opens InsR prog 38:=fG underlying38 (by kernel_rfl) (aX rfl (by kernel_rfl) (QU underlying3) (aX rfl (by kernel_rfl) (QU underlying3) (aX rfl (by kernel_rfl) (QU underlying3) (aX rfl (by kernel_rfl) (QU underlying3) (aX rfl (by kernel_rfl) (QU underlying3) (iL rfl (by kernel_rfl) Bc))))))
theorem FW:Opens (List InsR) prog 22:=iI underlying22 (by kernel_rfl) (by decide+kernel) Na
theorem GI:Opens (List RatR) prog 23:=iI underlying23 (by kernel_rfl) (by decide+kernel) Bc
section
variable {H:Type}{enc:TypeId×Value→H}{W:World}{v:Value}{d:DataW H}{p:List MemPlace}{b:Nat}
theorem R_(hv:Value.okWide prog W .any b 22 v)(h:DataW.Trod enc prog W 0 (fun _=>true) true 22 v d p)(hw:∀n,n∈d.weights prog 22->n<=reachBytes):
 ∃A n c xs,v=.slice A n c/\Sl InsR W [] A n c xs:=by
 obtain⟨A,n,c,rfl⟩:=okWide_slice underlying22 hv;obtain⟨fuel,hf⟩:=h;obtain⟨xs,A',n',c',e,hs⟩:=FW H enc W true fuel _ d p hf hw;exact afd
theorem Si(hv:Value.okWide prog W .any b 23 v)(h:DataW.Trod enc prog W 0 (fun _=>true) true 23 v d p)(hw:∀n,n∈d.weights prog 23->n<=reachBytes):
 ∃A n c xs,v=.slice A n c/\Sl RatR W [] A n c xs:=by
 obtain⟨A,n,c,rfl⟩:=okWide_slice underlying23 hv;obtain⟨fuel,hf⟩:=h;obtain⟨xs,A',n',c',e,hs⟩:=GI H enc W true fuel _ d p hf hw;exact afd
theorem Zu(hv:Value.okWide prog W .any b 3 v)(h:DataW.Trod enc prog W 0 (fun _=>true) true 3 v d p):∃x,v=.int .i64 x/\i64 x:=by obtain⟨x,rfl,-,-,wx⟩:=open_int underlying3 hv h;exact⟨x,rfl,wf_i64 wx⟩
end
end
end
section
section
set_option maxRecDepth 100000
theorem Aw:((Rows.codeRunSpecRow.inPlace==prog.inPlace 3))=true:=by kernel_rfl
theorem zk:((Rows.codeRunSpecRow.named==prog.varsNamed 3))=true:=by kernel_rfl
end
section
set_option maxRecDepth 100000
theorem zo:((Rows.codeRunSpecRow.unfollowed==prog.unfollowed 3))=true:=by kernel_rfl
theorem zF:((Rows.codeRunSpecRow.recurses==prog.recurses 3))=true:=by kernel_rfl
end
section
set_option maxRecDepth 100000
theorem gB{a b:Bool}(h:a=true)(k:b=true):(a&&b)=true:=by rw[h,k];rfl
theorem kr{p:Prop}(h:p:=by kernel_rfl):p:=h
theorem wL:joinedFacts prog 3 f3 Rows.codeRunSpecSpec Rows.codeRunSpecRow=true:=by unfold joinedFacts;exact gB (gB (gB (gB (gB (gB (gB (gB (gB (gB (gB (gB (gB (gB (gB (gB (gB (gB (gB (gB (gB (gB (gB (gB (gB (gB (gB (gB (gB (gB (gB kr kr) kr) kr) kr) kr) kr) kr) kr) Aw) zo) zF) zk) kr) kr) kr) kr) kr) kr) kr) kr) kr) kr) kr) kr) kr) kr) kr) kr) kr) kr) kr
end
open Go.ChangeShapes Go.WideShapes Go.ChangeAt Go.RowKit
section
set_option maxRecDepth 100000
theorem door_met(os:Os)(args:Array Value):laidMetH prog Rows.codeRunSpecRow.laid ((World.doorLaid prog 400 os).forCall (fun _ _=>0) ⟨#[],args, []⟩).memory:=laidMetH_of_parts3 (fuel:=8) (laidMet_of_run' 8 (by kernel_rfl) (by kernel_rfl)) (by kernel_rfl) (by kernel_rfl)
theorem aau{W:World}(h:laidMetH prog Rows.codeRunSpecRow.laid W):Tab W:=by rw[MakeChecks.laidMetH_plain _ _ _ (by kernel_rfl)]at h;exact Lib.tabIs_of_head (t:=271) (e:=5) (g:=0) (n:=256) (rest:= []) (by kernel_rfl) (by kernel_rfl) underlying271 underlying5 (by kernel_rfl) (by kernel_rfl) (laidMet.tail h)
theorem wM(os:Os)(started:os.Started)(H:Type)(enc:TypeId×Value->H):
 ReturnsInHanded {} checked os 3 .any (fun w args=>(Rows.codeRunSpecSpec.pre enc prog f3 [] false w args/\laidMetH prog Rows.codeRunSpecRow.laid w)/\sizedMet enc prog f3 (OpenSpec.ofChange Rows.codeRunSpecSpec) false w args) (Rows.codeRunSpecSpec.post enc prog f3 false true false false):=by
 refine returnsInHanded_of_change_and (C:=checked) (X:=fun w _=>laidMetH prog Rows.codeRunSpecRow.laid w) (fun _ _ _ hh h=>h.of_heap hh) own started (by kernel_rfl) func3 (ChangeSpec.witness_shaped (enc:=enc) (C:=checked) (os:=os) (X:=fun w _=>laidMetH prog Rows.codeRunSpecRow.laid w) false (World.doorLaid prog 400 os) #[.slice none 0 0,.slice none 0 0,.int .i64 0,.int .i64 0] 8 rfl (World.shaped_of_RefB (by kernel_rfl) (by kernel_rfl)) (by kernel_rfl) (by kernel_rfl) (by kernel_rfl) (door_met os _)) ?_;intro W base args ds gs before hval0 hW _ hsz0 hL _;have hsz:(DataW.weightsEach prog (f3.params.toList++Rows.codeRunSpecSpec.plain.varTypes prog) (ds++gs)).all (· <=reachBytes)=true:=hsz0;have hval:∀(j:Nat) t v,f3.params[j]?=some t->args[j]?=some v->Value.okWide prog W .any base t v:=hval0;have hW':=hW;have hlt:=hW.lt;obtain⟨p,q,hA0,hV,rfl,hfz,hnd⟩:=hW;have hA:DataW.TrodAll enc prog W 0 (fun _=>true) true f3.params.toList args.toList ds p:=hA0;rw[params3]at hA hval hsz;obtain⟨v0,v1,v2,v3,d0,d1,d2,d3,p0,p1,p2,p3,rfl,rfl,rfl,h0,h1,h2,h3⟩:=trodAll_four hA;obtain⟨rfl,rfl⟩:=trodVars_none hV;clear hA0 hval0 hsz0;have hwt:∀(j:Nat) (t:TypeId) (d:DataW H), [22,23,3,3][j]?=some t-> [d0,d1,d2,d3][j]?=some d->∀n,n∈d.weights prog t->n<=reachBytes:=by
  intro j t d ht hd n hn;have:=List.all_eq_true.1 hsz n (DataW.weights_mem_each (j:=j) (by
   rw[List.getElem?_append_left (List.getElem?_eq_some_iff.1 ht).1];exact ht) (by
   rw[List.append_nil];exact hd) n hn)
  simpa using this
 obtain⟨A0,n0,c0,xs0,rfl,hx0⟩:=R_ (hval 0 _ _ rfl rfl) h0 (hwt 0 _ _ rfl rfl);obtain⟨A1,n1,c1,xs1,rfl,hx1⟩:=Si (hval 1 _ _ rfl rfl) h1 (hwt 1 _ _ rfl rfl);obtain⟨x2,rfl,hx2⟩:=Zu (hval 2 _ _ rfl rfl) h2;obtain⟨x3,rfl,hx3⟩:=Zu (hval 3 _ _ rfl rfl) h3;simp only[List.append_nil]at hW' hlt;refine(yR hx0 hx1 hx3 (aau hL)).mono fun e W' ⟨he,hb⟩=>?_;subst he;refine⟨_,rfl,_,_,_, [],p0++(p1++(p2++p3)), [],hW',trodAll_mk1 (shut_bool underlying4 true),?_,rfl,hb.frame _,fun h=>by cases h⟩;exact trodAll_mk4 (hb.trod laidOut (by kernel_rfl) (by decide+kernel) h0 (fun x hx=>hlt x (by simp[hx]))) (hb.trod laidOut (by kernel_rfl) (by decide+kernel) h1 (fun x hx=>hlt x (by simp[hx]))) (hb.trod laidOut (by kernel_rfl) (by decide+kernel) h2 (fun x hx=>hlt x (by simp[hx]))) (hb.trod laidOut (by kernel_rfl) (by decide+kernel) h3 (fun x hx=>hlt x (by simp[hx])))
end
section
set_option maxRecDepth 100000
theorem zH:Rows.CodeRunSpecSaid:=
 OpenClaim.holds_of_wide 3 f3 rfl rfl rfl rfl rfl rfl rfl ⟨rfl,rfl,rfl,rfl,rfl⟩ rfl rfl rfl rfl rfl (by kernel_rfl) func3 wL
  (of_decide_eq_true (by kernel_rfl)) (by unfold Func.isWrapper;rw[if_neg (of_decide_eq_false (by kernel_rfl))];exact⟨rfl,rfl⟩)
  (fun os started H enc _=>wM os started H enc)
end
end
end Go.Proofs.YtefnknhjlejalaaGreatDoor
