/- SheetsError, proved: for every input the law returns true, and each argument reads as it did. No condition. -/
import Derived.Test.YthbbefkmnahnlaaRow2
import Derived.Test.YthbbefkmnahnlaaError
namespace Go.Proofs.Ythbbefkmnahnlaa
open Go.ChangeShapes Go.WideShapes Go.ChangeAt Go.RowKit

set_option maxRecDepth 100000 in
theorem sheetsError_lifted (os : Os) (started : os.Started) (H : Type) (enc : TypeId × Value → H) :
    ReturnsInHanded {} Try.checked os 4 .any (Rows.sheetsErrorSpec.pre6 enc Try.prog Try.f4 Rows.sheetsErrorRow.domain false) (Rows.sheetsErrorSpec.post enc Try.prog Try.f4 false true false false) := by
  refine returnsInHanded_of_change_sized (C := Try.checked) Try.own started (by kernel_rfl) Try.func4
    (ChangeSpec.witness6 (enc := enc) (C := Try.checked) false ⟨#[], #[.slice none 0 0, .slice none 0 0, .int .u16 0, .int .u16 0, .int .u8 0], []⟩ 8 (by kernel_rfl) (by kernel_rfl) (by kernel_rfl) (by kernel_rfl)) ?_
  intro W base args ds gs before hval0 hW _ hsz0 _
  have hsz : (DataW.weightsEach Try.prog (Try.f4.params.toList ++ Rows.sheetsErrorSpec.plain.varTypes Try.prog) (ds ++ gs)).all (· ≤ reachBytes) = true := hsz0
  have hval : ∀ (j : Nat) t v, Try.f4.params[j]? = some t → args[j]? = some v → Value.okWide Try.prog W .any base t v := hval0
  have hW' := hW
  have hlt := hW.lt
  obtain ⟨p, q, hA0, hV, rfl, hfz, hnd⟩ := hW
  have hA : DataW.TrodAll enc Try.prog W 0 (fun _ => true) true Try.f4.params.toList args.toList ds p := hA0
  rw [Try.params4] at hA hval hsz
  obtain ⟨v0, vs0, d0, ds0, p0, q0, hargs, rfl, rfl, h0, r0⟩ := trodAll_cons hA
  obtain ⟨v1, vs1, d1, ds1, p1, q1, rfl, rfl, rfl, h1, r1⟩ := trodAll_cons r0
  obtain ⟨v2, vs2, d2, ds2, p2, q2, rfl, rfl, rfl, h2, r2⟩ := trodAll_cons r1
  obtain ⟨v3, vs3, d3, ds3, p3, q3, rfl, rfl, rfl, h3, r3⟩ := trodAll_cons r2
  obtain ⟨v4, vs4, d4, ds4, p4, q4, rfl, rfl, rfl, h4, r4⟩ := trodAll_cons r3
  obtain ⟨rfl, rfl, rfl⟩ := trodAll_nil r4
  obtain rfl : args = #[v0, v1, v2, v3, v4] := by apply Array.toList_inj.1; rw [hargs]
  obtain ⟨rfl, rfl⟩ := trodVars_none hV
  clear hA0 hval0 hsz0
  have hwt : ∀ (j : Nat) (t : TypeId) (d : DataW H), [22, 23, 37, 37, 5][j]? = some t → [d0, d1, d2, d3, d4][j]? = some d → ∀ n, n ∈ d.weights Try.prog t → n ≤ reachBytes := by
    intro j t d ht hd n hn
    have := List.all_eq_true.1 hsz n (DataW.weights_mem_each (j := j) (by
      rw [List.getElem?_append_left (List.getElem?_eq_some_iff.1 ht).1]; exact ht) (by
      rw [List.append_nil]; exact hd) n hn)
    simpa using this
  obtain ⟨A0, n0, cp0, c0, rfl, hx0⟩ := arg_crits (hval 0 _ _ rfl rfl) h0 (hwt 0 _ _ rfl rfl)
  obtain ⟨A1, n1, cp1, c1, rfl, hx1⟩ := arg_ints (hval 1 _ _ rfl rfl) h1 (hwt 1 _ _ rfl rfl)
  obtain ⟨x2, rfl, lo2, hi2⟩ := arg_u16 (hval 2 _ _ rfl rfl) h2
  obtain ⟨x3, rfl, lo3, hi3⟩ := arg_u16 (hval 3 _ _ rfl rfl) h3
  obtain ⟨x4, rfl, lo4, hi4⟩ := arg_u8 (hval 4 _ _ rfl rfl) h4
  simp only [List.append_nil] at hW' hlt
  refine (errlaw_any A0 n0 cp0 c0 A1 n1 cp1 c1 x2 lo2 hi2 x3 lo3 hi3 x4 lo4 hi4 W hx0 hx1).mono fun e W' ⟨he, hb⟩ => ?_
  subst he
  refine ⟨_, rfl, _, _, _, [], p0 ++ (p1 ++ (p2 ++ (p3 ++ (p4 ++ [])))), [], hW', trodAll_mk1 (shut_bool Try.underlying4 true), ?_, rfl, hb.frame _, fun h => by cases h⟩
  exact trodAll_cons_mk (hb.trod Try.laidOut (by kernel_rfl) (by decide +kernel) h0 (fun x hx => hlt x (by simp [hx]))) (trodAll_cons_mk (hb.trod Try.laidOut (by kernel_rfl) (by decide +kernel) h1 (fun x hx => hlt x (by simp [hx]))) (trodAll_cons_mk (hb.trod Try.laidOut (by kernel_rfl) (by decide +kernel) h2 (fun x hx => hlt x (by simp [hx]))) (trodAll_cons_mk (hb.trod Try.laidOut (by kernel_rfl) (by decide +kernel) h3 (fun x hx => hlt x (by simp [hx]))) (trodAll_cons_mk (hb.trod Try.laidOut (by kernel_rfl) (by decide +kernel) h4 (fun x hx => hlt x (by simp [hx]))) trodAll_mk0))))

theorem sheetsError_holds : Rows.SheetsErrorSaid :=
  OpenClaim.holds_of_wide 4 Try.f4 rfl rfl rfl rfl rfl rfl rfl ⟨rfl, rfl, rfl, rfl, rfl⟩ rfl rfl rfl rfl rfl (by kernel_rfl) Try.func4 (by kernel_rfl)
    (of_decide_eq_true (by kernel_rfl)) (by unfold Func.isWrapper; rw [if_neg (of_decide_eq_false (by kernel_rfl))]; exact ⟨rfl, rfl⟩)
    (fun os started H enc _ => sheetsError_lifted os started H enc)

end Go.Proofs.Ythbbefkmnahnlaa
