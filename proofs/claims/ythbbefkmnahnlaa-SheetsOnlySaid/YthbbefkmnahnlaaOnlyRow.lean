/- SheetsOnly, proved: for every input the law returns true, and each argument reads as it did. No condition. -/
import Derived.Test.YthbbefkmnahnlaaRow1
import Derived.Test.YthbbefkmnahnlaaOnly
namespace Go.Proofs.Ythbbefkmnahnlaa
open Go.ChangeShapes Go.WideShapes Go.ChangeAt Go.RowKit

set_option maxRecDepth 100000 in
theorem only_lifted (os : Os) (started : os.Started) (H : Type) (enc : TypeId × Value → H) :
    ReturnsInHanded {} Try.checked os 6 .any (Rows.sheetsOnlySpec.pre6 enc Try.prog Try.f6 Rows.sheetsOnlyRow.domain false) (Rows.sheetsOnlySpec.post enc Try.prog Try.f6 false true false false) := by
  refine returnsInHanded_of_change_sized (C := Try.checked) Try.own started (by kernel_rfl) Try.func6
    (ChangeSpec.witness6 (enc := enc) (C := Try.checked) false ⟨#[], #[.slice none 0 0, .agg #[.int .i64 0, .int .i64 0, .int .i64 0, .int .i64 0, .slice none 0 0], .slice none 0 0], []⟩ 8 (by kernel_rfl) (by kernel_rfl) (by kernel_rfl) (by kernel_rfl)) ?_
  intro W base args ds gs before hval0 hW _ hsz0 _
  have hsz : (DataW.weightsEach Try.prog (Try.f6.params.toList ++ Rows.sheetsOnlySpec.plain.varTypes Try.prog) (ds ++ gs)).all (· ≤ reachBytes) = true := hsz0
  have hval : ∀ (j : Nat) t v, Try.f6.params[j]? = some t → args[j]? = some v → Value.okWide Try.prog W .any base t v := hval0
  have hW' := hW
  have hlt := hW.lt
  obtain ⟨p, q, hA0, hV, rfl, hfz, hnd⟩ := hW
  have hA : DataW.TrodAll enc Try.prog W 0 (fun _ => true) true Try.f6.params.toList args.toList ds p := hA0
  rw [Try.params6] at hA hval hsz
  obtain ⟨v0, v1, v2, d0, d1, d2, p0, p1, p2, rfl, rfl, rfl, h0, h1, h2⟩ := trodAll_three hA
  obtain ⟨rfl, rfl⟩ := trodVars_none hV
  clear hA0 hval0 hsz0
  have hwt : ∀ (j : Nat) (t : TypeId) (d : DataW H), [22, 29, 23][j]? = some t → [d0, d1, d2][j]? = some d → ∀ n, n ∈ d.weights Try.prog t → n ≤ reachBytes := by
    intro j t d ht hd n hn
    have := List.all_eq_true.1 hsz n (DataW.weights_mem_each (j := j) (by
      rw [List.getElem?_append_left (List.getElem?_eq_some_iff.1 ht).1]; exact ht) (by
      rw [List.append_nil]; exact hd) n hn)
    simpa using this
  obtain ⟨A, n, cp, c, rfl, hx⟩ := arg_crits (hval 0 _ _ rfl rfl) h0 (hwt 0 _ _ rfl rfl)
  obtain ⟨no, rd, en, ju, B, m, d, bs, rfl, hy⟩ := arg_sheet (hval 1 _ _ rfl rfl) h1 (hwt 1 _ _ rfl rfl)
  obtain ⟨C, k, cq, ks, rfl, hz⟩ := arg_ints (hval 2 _ _ rfl rfl) h2 (hwt 2 _ _ rfl rfl)
  simp only [List.append_nil] at hW' hlt
  refine (only_any A n cp c no rd en ju B m d bs C k cq ks W hx hy hz).mono fun e W' ⟨he, hb⟩ => ?_
  subst he
  refine ⟨_, rfl, _, _, _, [], p0 ++ (p1 ++ p2), [], hW', trodAll_mk1 (shut_bool Try.underlying4 true), ?_, rfl, hb.frame _, fun h => by cases h⟩
  exact trodAll_mk3 (hb.trod Try.laidOut (by kernel_rfl) (by decide +kernel) h0 (fun x hx => hlt x (by simp [hx]))) (hb.trod Try.laidOut (by kernel_rfl) (by decide +kernel) h1 (fun x hx => hlt x (by simp [hx]))) (hb.trod Try.laidOut (by kernel_rfl) (by decide +kernel) h2 (fun x hx => hlt x (by simp [hx])))

theorem sheetsOnly_holds : Rows.SheetsOnlySaid :=
  OpenClaim.holds_of_wide 6 Try.f6 rfl rfl rfl rfl rfl rfl rfl ⟨rfl, rfl, rfl, rfl, rfl⟩ rfl rfl rfl rfl rfl (by kernel_rfl) Try.func6 (by kernel_rfl)
    (of_decide_eq_true (by kernel_rfl)) (by unfold Func.isWrapper; rw [if_neg (of_decide_eq_false (by kernel_rfl))]; exact ⟨rfl, rfl⟩)
    (fun os started H enc _ => only_lifted os started H enc)

end Go.Proofs.Ythbbefkmnahnlaa
