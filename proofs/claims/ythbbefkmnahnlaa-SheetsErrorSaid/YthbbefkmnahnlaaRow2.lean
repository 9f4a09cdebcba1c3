/- Small integers among a statement's arguments. No statement is proved here. -/
import Derived.Test.YthbbefkmnahnlaaRow1
namespace Go.Proofs.Ythbbefkmnahnlaa
open Go.ChangeShapes Go.WideShapes Go.ChangeAt Go.RowKit Go.Deep Go.Joins
section
variable {H : Type} {enc : TypeId × Value → H} {W : World} {v : Value} {d : DataW H} {p : List MemPlace} {b : Nat}
theorem arg_u8 (hv : Value.okWide Try.prog W .any b 5 v) (h : DataW.Trod enc Try.prog W 0 (fun _ => true) true 5 v d p) : ∃ x, v = .int .u8 x ∧ 0 ≤ x ∧ x ≤ 255 := by
  obtain ⟨x, rfl, -, -, wx⟩ := open_int Try.underlying5 hv h
  have := bounds_u8 wx
  exact ⟨x, rfl, by omega, by omega⟩
theorem arg_u16 (hv : Value.okWide Try.prog W .any b 37 v) (h : DataW.Trod enc Try.prog W 0 (fun _ => true) true 37 v d p) : ∃ x, v = .int .u16 x ∧ 0 ≤ x ∧ x ≤ 65535 := by
  obtain ⟨x, rfl, -, -, wx⟩ := open_int Try.underlying37 hv h
  have := bounds_u16 wx
  exact ⟨x, rfl, by omega, by omega⟩
end
end Go.Proofs.Ythbbefkmnahnlaa
