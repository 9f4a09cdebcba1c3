/- SheetsAlone, proved: for every input the law returns true, and each argument reads as it did. No condition. -/
import Derived.Test.YthbbefkmnahnlaaRow2
import Derived.Test.YthbbefkmnahnlaaAlone
namespace Go.Proofs.Ythbbefkmnahnlaa
open Go.ChangeShapes Go.WideShapes Go.ChangeAt Go.RowKit

set_option maxRecDepth 100000 in
theorem sheetsAlone_lifted (os : Os) (started : os.Started) (H : Type) (enc : TypeId × Value → H) :
    ReturnsInHanded {} Try.checked os 5 .any (Rows.sheetsAloneSpec.pre6 enc Try.prog Try.f5 Rows.sheetsAloneRow.domain false) (Rows.sheetsAloneSpec.post enc Try.prog Try.f5 false true false false) := by
  refine returnsInHanded_of_change_sized (C := Try.checked) Try.own started (by kernel_rfl) Try.func5
    (ChangeSpec.witness6 (enc := enc) (C := Try.checked) false ⟨#[], #[.slice none 0 0, .agg #[.int .i64 0, .int .i64 0, .int .i64 0, .int .i64 0, .slice none 0 0], .int .u8 0], []⟩ 8 (by kernel_rfl) (by kernel_rfl) (by kernel_rfl) (by kernel_rfl)) ?_
  intro W base args ds gs before hval0 hW _ hsz0 _
  have hsz : (DataW.weightsEach Try.prog (Try.f5.params.toList ++ Rows.sheetsAloneSpec.plain.varTypes Try.prog) (ds ++ gs)).all (· ≤ reachBytes) = true := hsz0
  have hval : ∀ (j : Nat) t v, Try.f5.params[j]? = some t → args[j]? = some v → Value.okWide Try.prog W .any base t v := hval0
  have hW' := hW
  have hlt := hW.lt
  obtain ⟨p, q, hA0, hV, rfl, hfz, hnd⟩ := hW
  have hA : DataW.TrodAll enc Try.prog W 0 (fun _ => true) true Try.f5.params.toList args.toList ds p := hA0
  rw [Try.params5] at hA hval hsz
  obtain ⟨v0, v1, v2, d0, d1, d2, p0, p1, p2, rfl, rfl, rfl, h0, h1, h2⟩ := trodAll_three hA
  obtain ⟨rfl, rfl⟩ := trodVars_none hV
  clear hA0 hval0 hsz0
  have hwt : ∀ (j : Nat) (t : TypeId) (d : DataW H), [22, 29, 5][j]? = some t → [d0, d1, d2][j]? = some d → ∀ n, n ∈ d.weights Try.prog t → n ≤ reachBytes := by
    intro j t d ht hd n hn
    have := List.all_eq_true.1 hsz n (DataW.weights_mem_each (j := j) (by
      rw [List.getElem?_append_left (List.getElem?_eq_some_iff.1 ht).1]; exact ht) (by
      rw [List.append_nil]; exact hd) n hn)
    simpa using this
  obtain ⟨A0, n0, cp0, c0, rfl, hx0⟩ := arg_crits (hval 0 _ _ rfl rfl) h0 (hwt 0 _ _ rfl rfl)
  obtain ⟨no1, rd1, en1, ju1, B1, m1, e1, bs1, rfl, hx1⟩ := arg_sheet (hval 1 _ _ rfl rfl) h1 (hwt 1 _ _ rfl rfl)
  obtain ⟨x2, rfl, lo2, hi2⟩ := arg_u8 (hval 2 _ _ rfl rfl) h2
  simp only [List.append_nil] at hW' hlt
  refine (alone_any A0 n0 cp0 c0 no1 rd1 en1 ju1 B1 m1 e1 bs1 x2 lo2 hi2 W hx0 hx1).mono fun e W' ⟨he, hb⟩ => ?_
  subst he
  refine ⟨_, rfl, _, _, _, [], p0 ++ (p1 ++ p2), [], hW', trodAll_mk1 (shut_bool Try.underlying4 true), ?_, rfl, hb.frame _, fun h => by cases h⟩
  exact trodAll_mk3 (hb.trod Try.laidOut (by kernel_rfl) (by decide +kernel) h0 (fun x hx => hlt x (by simp [hx]))) (hb.trod Try.laidOut (by kernel_rfl) (by decide +kernel) h1 (fun x hx => hlt x (by simp [hx]))) (hb.trod Try.laidOut (by kernel_rfl) (by decide +kernel) h2 (fun x hx => hlt x (by simp [hx])))

theorem sheetsAlone_holds : Rows.SheetsAloneSaid :=
  OpenClaim.holds_of_wide 5 Try.f5 rfl rfl rfl rfl rfl rfl rfl ⟨rfl, rfl, rfl, rfl, rfl⟩ rfl rfl rfl rfl rfl (by kernel_rfl) Try.func5 (by kernel_rfl)
    (of_decide_eq_true (by kernel_rfl)) (by unfold Func.isWrapper; rw [if_neg (of_decide_eq_false (by kernel_rfl))]; exact ⟨rfl, rfl⟩)
    (fun os started H enc _ => sheetsAlone_lifted os started H enc)

end Go.Proofs.Ythbbefkmnahnlaa
