/- The arguments of the statements on sheets: a slice of criteria, a sheet. No statement is proved here. -/
import Derived.Test.YthbbefkmnahnlaaOpen
import Derived.Test.YthbbefkmnahnlaaChk
namespace Go.Proofs.Ythbbefkmnahnlaa
open Go.ChangeShapes Go.WideShapes Go.ChangeAt Go.RowKit Go.Deep Go.Joins

theorem Try.own : ownKnob Try.prog.godebug = none := by kernel_rfl
theorem Try.laidOut : laidOutB Try.prog = true := by kernel_rfl

theorem opens_crit : Opens Crit Try.prog 39 := by
  intro H enc w held fuel cs d pl h _
  obtain ⟨hl, n, ds, rfl, hf⟩ := trod_cells1 Try.underlying39 (by kernel_rfl) (by kernel_rfl) h
  obtain ⟨c0, y0, q0, e0, _, t0⟩ := hf 0 _ rfl
  obtain ⟨c1, y1, q1, e1, _, t1⟩ := hf 1 _ rfl
  obtain ⟨c2, y2, q2, e2, _, t2⟩ := hf 2 _ rfl
  obtain ⟨c3, y3, q3, e3, _, t3⟩ := hf 3 _ rfl
  obtain ⟨c4, y4, q4, e4, _, t4⟩ := hf 4 _ rfl
  obtain ⟨c5, y5, q5, e5, _, t5⟩ := hf 5 _ rfl
  obtain ⟨c6, y6, q6, e6, _, t6⟩ := hf 6 _ rfl
  obtain ⟨s, g0, -⟩ := DataW.trod_string Try.underlying9 t0
  obtain ⟨lo, g1, -, w1⟩ := DataW.trod_int Try.underlying3 t1
  obtain ⟨hi, g2, -, w2⟩ := DataW.trod_int Try.underlying3 t2
  obtain ⟨st, g3, -, w3⟩ := DataW.trod_int Try.underlying3 t3
  obtain ⟨how, g4, -, w4⟩ := DataW.trod_int Try.underlying3 t4
  obtain ⟨tr, g5, -, w5⟩ := DataW.trod_int Try.underlying3 t5
  obtain ⟨rv, g6, -⟩ := DataW.trod_bool Try.underlying4 t6
  refine ⟨⟨s, lo, hi, st, how, tr, rv⟩, ?_, wf_i64 w1, wf_i64 w2, wf_i64 w3, wf_i64 w4, wf_i64 w5⟩
  match cs, hl with
  | [a0, a1, a2, a3, a4, a5, a6], _ =>
    simp at e0 e1 e2 e3 e4 e5 e6 g0 g1 g2 g3 g4 g5 g6
    subst e0 e1 e2 e3 e4 e5 e6 g0 g1 g2 g3 g4 g5 g6
    rfl

theorem opens_crits : Opens (List Crit) Try.prog 22 := opens_slice Try.underlying22 (by kernel_rfl) (by decide +kernel) opens_crit
theorem opens_ints : Opens (List Int) Try.prog 23 := opens_slice Try.underlying23 (by kernel_rfl) (by decide +kernel) (opens_int Try.underlying3)
theorem opens_intss : Opens (List (List Int)) Try.prog 26 := opens_slice Try.underlying26 (by kernel_rfl) (by decide +kernel) opens_ints

section
variable {H : Type} {enc : TypeId × Value → H} {W : World} {v : Value} {d : DataW H} {p : List MemPlace} {b : Nat}
theorem arg_crits (hv : Value.okWide Try.prog W .any b 22 v) (h : DataW.Trod enc Try.prog W 0 (fun _ => true) true 22 v d p) (hw : ∀ n, n ∈ d.weights Try.prog 22 → n ≤ reachBytes) :
    ∃ A n c xs, v = .slice A n c ∧ Sl Crit W [] A n c xs := by
  obtain ⟨A, n, c, rfl⟩ := okWide_slice Try.underlying22 hv
  obtain ⟨fuel, hf⟩ := h
  obtain ⟨xs, A', n', c', e, hs⟩ := opens_crits H enc W true fuel _ d p hf hw
  simp [Value.cells] at e
  obtain ⟨rfl, rfl, rfl⟩ := e
  exact ⟨A, n, c, xs, rfl, hs⟩
theorem arg_ints (hv : Value.okWide Try.prog W .any b 23 v) (h : DataW.Trod enc Try.prog W 0 (fun _ => true) true 23 v d p) (hw : ∀ n, n ∈ d.weights Try.prog 23 → n ≤ reachBytes) :
    ∃ A n c xs, v = .slice A n c ∧ Sl Int W [] A n c xs := by
  obtain ⟨A, n, c, rfl⟩ := okWide_slice Try.underlying23 hv
  obtain ⟨fuel, hf⟩ := h
  obtain ⟨xs, A', n', c', e, hs⟩ := opens_ints H enc W true fuel _ d p hf hw
  simp [Value.cells] at e
  obtain ⟨rfl, rfl, rfl⟩ := e
  exact ⟨A, n, c, xs, rfl, hs⟩
theorem arg_sheet (hv : Value.okWide Try.prog W .any b 29 v) (h : DataW.Trod enc Try.prog W 0 (fun _ => true) true 29 v d p) (hw : ∀ n, n ∈ d.weights Try.prog 29 → n ≤ reachBytes) :
    ∃ no rd en ju B m k bs, v = .agg #[.int .i64 no, .int .i64 rd, .int .i64 en, .int .i64 ju, .slice B m k] ∧ Sl (List Int) W [] B m k bs := by
  obtain ⟨cs, rfl, hsz⟩ := okWide_struct Try.underlying29 hv
  obtain ⟨fuel, hg⟩ := h
  rw [show (Value.cells (.agg cs)).toList = cs.toList from rfl] at hg
  obtain ⟨hl, n, ds, rfl, hf⟩ := trod_cells1 Try.underlying29 (by kernel_rfl) (by kernel_rfl) hg
  obtain ⟨c0, y0, q0, e0, _, t0⟩ := hf 0 _ rfl
  obtain ⟨c1, y1, q1, e1, _, t1⟩ := hf 1 _ rfl
  obtain ⟨c2, y2, q2, e2, _, t2⟩ := hf 2 _ rfl
  obtain ⟨c3, y3, q3, e3, _, t3⟩ := hf 3 _ rfl
  obtain ⟨c4, y4, q4, e4, f4, t4⟩ := hf 4 _ rfl
  obtain ⟨a0, g0, -, -⟩ := DataW.trod_int Try.underlying3 t0
  obtain ⟨a1, g1, -, -⟩ := DataW.trod_int Try.underlying3 t1
  obtain ⟨a2, g2, -, -⟩ := DataW.trod_int Try.underlying3 t2
  obtain ⟨a3, g3, -, -⟩ := DataW.trod_int Try.underlying3 t3
  obtain ⟨bs, B, m, k, g4, hs⟩ := opens_intss H enc W true _ _ _ _ t4 (fun x hx => hw x (by
    simp only [DataW.weights, Try.underlying29]
    exact DataW.weights_mem_each (j := 4) rfl f4 x hx))
  refine ⟨a0, a1, a2, a3, B, m, k, bs, ?_, hs⟩
  obtain ⟨l⟩ := cs
  match l, hl with
  | [x0, x1, x2, x3, x4], _ =>
    simp at e0 e1 e2 e3 e4 g0 g1 g2 g3 g4
    subst e0 e1 e2 e3 e4 g0 g1 g2 g3 g4
    rfl
end
end Go.Proofs.Ythbbefkmnahnlaa
