/- Lemmas and walks; no statement is proved here. -/
import Derived.Test.YtlcgbfkdnmdigaaGreatDoorTie
import Derived.Test.YtlcgbfkdnmdigaaGreatDoorCards
import Derived.LaidMore
import Derived.Stop.Joined
import Derived.Stop.LaidErr
import Derived.SevenTiedAt
import Derived.Test.YtlcgbfkdnmdigaaGreatDoorM46
set_option linter.unusedVariables false
set_option linter.unusedSimpArgs false
set_option maxRecDepth 20000
set_option maxHeartbeats 6000000
namespace Go.Proofs.YtlcgbfkdnmdigaaGreatDoor
open Go.Proofs.Tryz Go.ChangeShapes Go.WideShapes Go.ChangeAt Go.RowKit
section
section
set_option maxRecDepth 100000
theorem door_met(os:Os)(args:Array Value):laidMetH prog Rows.scoreCountsRow.laid ((World.doorLaid prog 400 os).forCall (fun _ _=>0) ⟨#[],args, []⟩).memory:=laidMetH_of_parts3 (fuel:=8) (laidMet_of_run' 8 (by kernel_rfl) (by kernel_rfl)) (by kernel_rfl) (by kernel_rfl)
theorem abG{W:World}(h:laidMetH prog Rows.scoreCountsRow.laid W):Tab W:=by rw[MakeChecks.laidMetH_plain _ _ _ (by kernel_rfl)]at h;exact Lib.tabIs_of_head (t:=286) (e:=5) (g:=0) (n:=256) (rest:= []) (by kernel_rfl) (by kernel_rfl) underlying286 underlying5 (by kernel_rfl) (by kernel_rfl) (laidMet.tail h)
theorem AP(os:Os)(started:os.Started)(H:Type)(enc:TypeId×Value->H):
 ReturnsInHanded {} checked os 6 .any (fun w args=>(Rows.scoreCountsSpec.pre enc prog f6 [] false w args/\laidMetH prog Rows.scoreCountsRow.laid w)/\sizedMet enc prog f6 (OpenSpec.ofChange Rows.scoreCountsSpec) false w args) (Rows.scoreCountsSpec.post enc prog f6 false true false false):=by
 refine returnsInHanded_of_change_and (C:=checked) (X:=fun w _=>laidMetH prog Rows.scoreCountsRow.laid w) (fun _ _ _ hh h=>h.of_heap hh) own started (by kernel_rfl) func6 (ChangeSpec.witness_shaped (enc:=enc) (C:=checked) (os:=os) (X:=fun w _=>laidMetH prog Rows.scoreCountsRow.laid w) false (World.doorLaid prog 400 os) #[.agg #[.string ⟨#[]⟩,.slice none 0 0,.slice none 0 0,.slice none 0 0,.slice none 0 0,.slice none 0 0,.slice none 0 0,.slice none 0 0,.int .i64 0],.int .i64 0,.agg #[.slice none 0 0,.slice none 0 0,.slice none 0 0,.slice none 0 0],.int .u8 0,.bool false] 8 rfl (World.shaped_of_RefB (by kernel_rfl) (by kernel_rfl)) (by kernel_rfl) (by kernel_rfl) (by kernel_rfl) (door_met os _)) ?_;intro W base args ds gs before hval0 hW _ hsz0 hL _;have hsz:(DataW.weightsEach prog (f6.params.toList++Rows.scoreCountsSpec.plain.varTypes prog) (ds++gs)).all (· <=reachBytes)=true:=hsz0;have hval:∀(j:Nat) t v,f6.params[j]?=some t->args[j]?=some v->Value.okWide prog W .any base t v:=hval0;have hW':=hW;have hlt:=hW.lt;obtain⟨p,q,hA0,hV,rfl,hfz,hnd⟩:=hW;have hA:DataW.TrodAll enc prog W 0 (fun _=>true) true f6.params.toList args.toList ds p:=hA0;rw[params6]at hA hval hsz;obtain⟨v0,vs0,d0,ds0,p0,q0,hargs,rfl,rfl,h0,r0⟩:=trodAll_cons hA;obtain⟨v1,vs1,d1,ds1,p1,q1,rfl,rfl,rfl,h1,r1⟩:=trodAll_cons r0;obtain⟨v2,vs2,d2,ds2,p2,q2,rfl,rfl,rfl,h2,r2⟩:=trodAll_cons r1;obtain⟨v3,vs3,d3,ds3,p3,q3,rfl,rfl,rfl,h3,r3⟩:=trodAll_cons r2;obtain⟨v4,vs4,d4,ds4,p4,q4,rfl,rfl,rfl,h4,r4⟩:=trodAll_cons r3;obtain⟨rfl,rfl,rfl⟩:=trodAll_nil r4;obtain rfl:args=#[v0,v1,v2,v3,v4]:=by apply Array.toList_inj.1;rw[hargs]
 obtain⟨rfl,rfl⟩:=trodVars_none hV;clear hA0 hval0 hsz0;have hwt:∀(j:Nat) (t:TypeId) (d:DataW H), [28,3,32,5,4][j]?=some t-> [d0,d1,d2,d3,d4][j]?=some d->∀n,n∈d.weights prog t->n<=reachBytes:=by
  intro j t d ht hd n hn;have:=List.all_eq_true.1 hsz n (DataW.weights_mem_each (j:=j) (by
   rw[List.getElem?_append_left (List.getElem?_eq_some_iff.1 ht).1];exact ht) (by
   rw[List.append_nil];exact hd) n hn)
  simpa using this
 obtain⟨r0,s01,s02,s03,s04,s05,s06,s07,rfl,hx0⟩:=Uc (hval 0 _ _ rfl rfl) h0 (hwt 0 _ _ rfl rfl);obtain⟨x1,rfl,hx1⟩:=Zu (hval 1 _ _ rfl rfl) h1;obtain⟨c2,t21,t22,t23,t24,rfl,hx2⟩:=XB (hval 2 _ _ rfl rfl) h2 (hwt 2 _ _ rfl rfl);obtain⟨x3,rfl,hx3⟩:=abE (hval 3 _ _ rfl rfl) h3;obtain⟨x4,rfl,hx4⟩:=aax (hval 4 _ _ rfl rfl) h4;simp only[List.append_nil]at hW' hlt;refine(AZ hx0 hx2 hx3 (abG hL)).mono fun e W' ⟨he,hb⟩=>?_;subst he;refine⟨_,rfl,_,_,_, [],p0++(p1++(p2++(p3++(p4++ [])))), [],hW',trodAll_mk1 (shut_bool underlying4 true),?_,rfl,hb.frame _,fun h=>by cases h⟩;exact trodAll_cons_mk (hb.trod laidOut (by kernel_rfl) (by decide+kernel) h0 (fun x hx=>hlt x (by simp[hx]))) (trodAll_cons_mk (hb.trod laidOut (by kernel_rfl) (by decide+kernel) h1 (fun x hx=>hlt x (by simp[hx]))) (trodAll_cons_mk (hb.trod laidOut (by kernel_rfl) (by decide+kernel) h2 (fun x hx=>hlt x (by simp[hx]))) (trodAll_cons_mk (hb.trod laidOut (by kernel_rfl) (by decide+kernel) h3 (fun x hx=>hlt x (by simp[hx]))) (trodAll_cons_mk (hb.trod laidOut (by kernel_rfl) (by decide+kernel) h4 (fun x hx=>hlt x (by simp[hx]))) trodAll_mk0))))
end
section
set_option maxRecDepth 100000
theorem Bh:Rows.ScoreCountsSaid:=
 OpenClaim.holds_of_wide 6 f6 rfl rfl rfl rfl rfl rfl rfl ⟨rfl,rfl,rfl,rfl,rfl⟩ rfl rfl rfl rfl rfl (by kernel_rfl) func6 AO
  (of_decide_eq_true (by kernel_rfl)) (by unfold Func.isWrapper;rw[if_neg (of_decide_eq_false (by kernel_rfl))];exact⟨rfl,rfl⟩)
  (fun os started H enc _=>AP os started H enc)
end
end
end Go.Proofs.YtlcgbfkdnmdigaaGreatDoor
