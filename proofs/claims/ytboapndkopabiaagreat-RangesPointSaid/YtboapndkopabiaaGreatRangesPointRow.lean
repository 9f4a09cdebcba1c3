/- RangesPoint, proved: for every input the law returns true, and each argument reads as it did. No condition. -/
import Derived.Test.YtboapndkopabiaaGreatM46
set_option linter.unusedVariables false
set_option linter.unusedSimpArgs false
namespace Go.Proofs.YtboapndkopabiaaGreat
open Go.ChangeShapes Go.WideShapes Go.ChangeAt Go.RowKit
set_option maxRecDepth 100000 in
theorem rangesPoint_lifted (os : Os) (started : os.Started) (H : Type) (enc : TypeId × Value → H) :
 ReturnsInHanded {} Tryz.checked os 6 .any (Rows.rangesPointSpec.pre6 enc Tryz.prog Tryz.f6 Rows.rangesPointRow.domain false) (Rows.rangesPointSpec.post enc Tryz.prog Tryz.f6 false true false false) := by
 refine returnsInHanded_of_change_sized (C := Tryz.checked) Tryz.own started (by kernel_rfl) Tryz.func6
  (ChangeSpec.witness6 (enc := enc) (C := Tryz.checked) false ⟨#[], #[.slice none 0 0, .slice none 0 0, .slice none 0 0, .slice none 0 0], []⟩ 8 (by kernel_rfl) (by kernel_rfl) (by kernel_rfl) (by kernel_rfl)) ?_
 intro W base args ds gs before hval0 hW _ hsz0 _
 have hsz : (DataW.weightsEach Tryz.prog (Tryz.f6.params.toList ++ Rows.rangesPointSpec.plain.varTypes Tryz.prog) (ds ++ gs)).all (· ≤ reachBytes) = true := hsz0
 have hval : ∀ (j : Nat) t v, Tryz.f6.params[j]? = some t → args[j]? = some v → Value.okWide Tryz.prog W .any base t v := hval0
 have hW' := hW
 have hlt := hW.lt
 obtain ⟨p, q, hA0, hV, rfl, hfz, hnd⟩ := hW
 have hA : DataW.TrodAll enc Tryz.prog W 0 (fun _ => true) true Tryz.f6.params.toList args.toList ds p := hA0
 rw [Tryz.params6] at hA hval hsz
 obtain ⟨v0, v1, v2, v3, d0, d1, d2, d3, p0, p1, p2, p3, rfl, rfl, rfl, h0, h1, h2, h3⟩ := trodAll_four hA
 obtain ⟨rfl, rfl⟩ := trodVars_none hV
 clear hA0 hval0 hsz0
 have hwt : ∀ (j : Nat) (t : TypeId) (d : DataW H), [22, 23, 45, 45][j]? = some t → [d0, d1, d2, d3][j]? = some d → ∀ n, n ∈ d.weights Tryz.prog t → n ≤ reachBytes := by
  intro j t d ht hd n hn
  have := List.all_eq_true.1 hsz n (DataW.weights_mem_each (j := j) (by
   rw [List.getElem?_append_left (List.getElem?_eq_some_iff.1 ht).1]; exact ht) (by
   rw [List.append_nil]; exact hd) n hn)
  simpa using this
 obtain ⟨A0, n0, cp0, c0, rfl, hx0⟩ := arg_code (hval 0 _ _ rfl rfl) h0 (hwt 0 _ _ rfl rfl)
 obtain ⟨A1, n1, cp1, c1, rfl, hx1⟩ := arg_rngs (hval 1 _ _ rfl rfl) h1 (hwt 1 _ _ rfl rfl)
 obtain ⟨A2, n2, cp2, c2, rfl, hx2⟩ := arg_u8s (hval 2 _ _ rfl rfl) h2 (hwt 2 _ _ rfl rfl)
 obtain ⟨A3, n3, cp3, c3, rfl, hx3⟩ := arg_u8s (hval 3 _ _ rfl rfl) h3 (hwt 3 _ _ rfl rfl)
 simp only [List.append_nil] at hW' hlt
 refine (rangesPoint_true hx0 hx1 hx2 hx3).mono fun e W' ⟨he, hb⟩ => ?_
 subst he
 refine ⟨_, rfl, _, _, _, [], p0 ++ (p1 ++ (p2 ++ p3)), [], hW', trodAll_mk1 (shut_bool Tryz.underlying4 true), ?_, rfl, hb.frame _, fun h => by cases h⟩
 exact trodAll_mk4 (hb.trod Tryz.laidOut (by kernel_rfl) (by decide +kernel) h0 (fun x hx => hlt x (by simp [hx]))) (hb.trod Tryz.laidOut (by kernel_rfl) (by decide +kernel) h1 (fun x hx => hlt x (by simp [hx]))) (hb.trod Tryz.laidOut (by kernel_rfl) (by decide +kernel) h2 (fun x hx => hlt x (by simp [hx]))) (hb.trod Tryz.laidOut (by kernel_rfl) (by decide +kernel) h3 (fun x hx => hlt x (by simp [hx])))
theorem rangesPoint_holds : Rows.RangesPointSaid :=
 OpenClaim.holds_of_wide 6 Tryz.f6 rfl rfl rfl rfl rfl rfl rfl ⟨rfl, rfl, rfl, rfl, rfl⟩ rfl rfl rfl rfl rfl (by kernel_rfl) Tryz.func6 (by kernel_rfl)
  (of_decide_eq_true (by kernel_rfl)) (by unfold Func.isWrapper; rw [if_neg (of_decide_eq_false (by kernel_rfl))]; exact ⟨rfl, rfl⟩)
  (fun os started H enc _ => rangesPoint_lifted os started H enc)
end Go.Proofs.YtboapndkopabiaaGreat
