/- RangesNeedFirst, proved: for every input the law returns true, and each argument reads as it did. No condition. -/
import Derived.Test.YtboapndkopabiaaGreatM47
set_option linter.unusedVariables false
set_option linter.unusedSimpArgs false
namespace Go.Proofs.YtboapndkopabiaaGreat
open Go.ChangeShapes Go.WideShapes Go.ChangeAt Go.RowKit
set_option maxRecDepth 100000 in
theorem rangesNeedFirst_lifted (os : Os) (started : os.Started) (H : Type) (enc : TypeId × Value → H) :
 ReturnsInHanded {} Tryz.checked os 7 .any (Rows.rangesNeedFirstSpec.pre6 enc Tryz.prog Tryz.f7 Rows.rangesNeedFirstRow.domain false) (Rows.rangesNeedFirstSpec.post enc Tryz.prog Tryz.f7 false true false false) := by
 refine returnsInHanded_of_change_sized (C := Tryz.checked) Tryz.own started (by kernel_rfl) Tryz.func7
  (ChangeSpec.witness6 (enc := enc) (C := Tryz.checked) false ⟨#[], #[.slice none 0 0, .slice none 0 0, .int .i64 0, .slice none 0 0, .agg #[.bool false, .slice none 0 0, .bool false, .slice none 0 0]], []⟩ 8 (by kernel_rfl) (by kernel_rfl) (by kernel_rfl) (by kernel_rfl)) ?_
 intro W base args ds gs before hval0 hW _ hsz0 _
 have hsz : (DataW.weightsEach Tryz.prog (Tryz.f7.params.toList ++ Rows.rangesNeedFirstSpec.plain.varTypes Tryz.prog) (ds ++ gs)).all (· ≤ reachBytes) = true := hsz0
 have hval : ∀ (j : Nat) t v, Tryz.f7.params[j]? = some t → args[j]? = some v → Value.okWide Tryz.prog W .any base t v := hval0
 have hW' := hW
 have hlt := hW.lt
 obtain ⟨p, q, hA0, hV, rfl, hfz, hnd⟩ := hW
 have hA : DataW.TrodAll enc Tryz.prog W 0 (fun _ => true) true Tryz.f7.params.toList args.toList ds p := hA0
 rw [Tryz.params7] at hA hval hsz
 obtain ⟨v0, vs0, d0, ds0, p0, q0, hargs, rfl, rfl, h0, r0⟩ := trodAll_cons hA
 obtain ⟨v1, vs1, d1, ds1, p1, q1, rfl, rfl, rfl, h1, r1⟩ := trodAll_cons r0
 obtain ⟨v2, vs2, d2, ds2, p2, q2, rfl, rfl, rfl, h2, r2⟩ := trodAll_cons r1
 obtain ⟨v3, vs3, d3, ds3, p3, q3, rfl, rfl, rfl, h3, r3⟩ := trodAll_cons r2
 obtain ⟨v4, vs4, d4, ds4, p4, q4, rfl, rfl, rfl, h4, r4⟩ := trodAll_cons r3
 obtain ⟨rfl, rfl, rfl⟩ := trodAll_nil r4
 obtain rfl : args = #[v0, v1, v2, v3, v4] := by apply Array.toList_inj.1; rw [hargs]
 obtain ⟨rfl, rfl⟩ := trodVars_none hV
 clear hA0 hval0 hsz0
 have hwt : ∀ (j : Nat) (t : TypeId) (d : DataW H), [22, 39, 3, 39, 31][j]? = some t → [d0, d1, d2, d3, d4][j]? = some d → ∀ n, n ∈ d.weights Tryz.prog t → n ≤ reachBytes := by
  intro j t d ht hd n hn
  have := List.all_eq_true.1 hsz n (DataW.weights_mem_each (j := j) (by
   rw [List.getElem?_append_left (List.getElem?_eq_some_iff.1 ht).1]; exact ht) (by
   rw [List.append_nil]; exact hd) n hn)
  simpa using this
 obtain ⟨A0, n0, cp0, c0, rfl, hx0⟩ := arg_code (hval 0 _ _ rfl rfl) h0 (hwt 0 _ _ rfl rfl)
 obtain ⟨A1, n1, cp1, c1, rfl, hx1⟩ := arg_rats (hval 1 _ _ rfl rfl) h1 (hwt 1 _ _ rfl rfl)
 obtain ⟨x2, rfl, hx2⟩ := arg_int (hval 2 _ _ rfl rfl) h2
 obtain ⟨A3, n3, cp3, c3, rfl, hx3⟩ := arg_rats (hval 3 _ _ rfl rfl) h3 (hwt 3 _ _ rfl rfl)
 obtain ⟨p4x, q4x, A4, n4, cp4, B4, m4, k4, x4, rfl, hp4, hq4, hx4, hy4⟩ := arg_rat (hval 4 _ _ rfl rfl) h4 (hwt 4 _ _ rfl rfl)
 simp only [List.append_nil] at hW' hlt
 refine (rangesNeedFirst_true hx0 hx1 hx2 hx3 hp4 hq4 hx4 hy4).mono fun e W' ⟨he, hb⟩ => ?_
 subst he
 refine ⟨_, rfl, _, _, _, [], p0 ++ (p1 ++ (p2 ++ (p3 ++ (p4 ++ [])))), [], hW', trodAll_mk1 (shut_bool Tryz.underlying4 true), ?_, rfl, hb.frame _, fun h => by cases h⟩
 exact trodAll_cons_mk (hb.trod Tryz.laidOut (by kernel_rfl) (by decide +kernel) h0 (fun x hx => hlt x (by simp [hx]))) (trodAll_cons_mk (hb.trod Tryz.laidOut (by kernel_rfl) (by decide +kernel) h1 (fun x hx => hlt x (by simp [hx]))) (trodAll_cons_mk (hb.trod Tryz.laidOut (by kernel_rfl) (by decide +kernel) h2 (fun x hx => hlt x (by simp [hx]))) (trodAll_cons_mk (hb.trod Tryz.laidOut (by kernel_rfl) (by decide +kernel) h3 (fun x hx => hlt x (by simp [hx]))) (trodAll_cons_mk (hb.trod Tryz.laidOut (by kernel_rfl) (by decide +kernel) h4 (fun x hx => hlt x (by simp [hx]))) trodAll_mk0))))
theorem rangesNeedFirst_holds : Rows.RangesNeedFirstSaid :=
 OpenClaim.holds_of_wide 7 Tryz.f7 rfl rfl rfl rfl rfl rfl rfl ⟨rfl, rfl, rfl, rfl, rfl⟩ rfl rfl rfl rfl rfl (by kernel_rfl) Tryz.func7 (by kernel_rfl)
  (of_decide_eq_true (by kernel_rfl)) (by unfold Func.isWrapper; rw [if_neg (of_decide_eq_false (by kernel_rfl))]; exact ⟨rfl, rfl⟩)
  (fun os started H enc _ => rangesNeedFirst_lifted os started H enc)
end Go.Proofs.YtboapndkopabiaaGreat
