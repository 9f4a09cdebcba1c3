/- How a statement's arguments are opened: what a given datum reads as, as lists. No statement is proved here. -/
import Derived.Test.YthbbefkmnahnlaaBase
import Derived.ProofKit
import Derived.Deep.Slices
import Derived.SizedLaws
import Derived.Lib.SmallJoins
namespace Go.Proofs.Ythbbefkmnahnlaa
open Go.ChangeShapes Go.WideShapes Go.ChangeAt Go.RowKit Go.Deep Go.Joins

/-- Whatever is read at type t reads as an α. -/
def Opens (α : Type) [Rep α] (P : Program) (t : TypeId) : Prop :=
  ∀ (H : Type) (enc : TypeId × Value → H) (w : World) (held : Bool) (fuel : Nat) (cs : List Value) (d : DataW H) (pl : List MemPlace),
    DataW.trod enc P w 0 (fun _ => true) held fuel t cs = some (d, pl) → (∀ n, n ∈ d.weights P t → n ≤ reachBytes) → ∃ v : α, Rep.rd w [] v cs

theorem wf_i64 {n : Int} (h : (Lit.int .i64 n).wf = true) : i64 n := by
  have := bounds_i64 h
  unfold i64
  omega

theorem opens_int {P : Program} {t : TypeId} (ht : P.underlying t = some (.int .i64)) : Opens Int P t := by
  intro H enc w held fuel cs d pl h _
  obtain ⟨n, rfl, _, hw⟩ := DataW.trod_int ht h
  exact ⟨n, rfl, wf_i64 hw⟩

theorem list_of {α : Type} {p : Nat → α → Prop} : ∀ (n : Nat), (∀ i, i < n → ∃ x, p i x) → ∃ xs : List α, xs.length = n ∧ ∀ i x, xs[i]? = some x → p i x
  | 0, _ => ⟨[], rfl, by simp⟩
  | n + 1, h => by
    obtain ⟨xs, hl, hx⟩ := list_of n (fun i hi => h i (by omega))
    obtain ⟨y, hy⟩ := h n (by omega)
    refine ⟨xs ++ [y], by simp [hl], fun i x hi => ?_⟩
    by_cases g : i < n
    · rw [List.getElem?_append_left (by omega)] at hi
      exact hx i x hi
    · have hi2 := hi
      have : i < (xs ++ [y]).length := (List.getElem?_eq_some_iff.1 hi).1
      obtain rfl : i = n := by simp [hl] at this; omega
      rw [List.getElem?_append_right (by omega), hl] at hi
      simp at hi
      rw [← hi]; exact hy

theorem weightsAll_mem {H : Type} {P : Program} {e : TypeId} {d : DataW H} {n : Nat} (hn : n ∈ d.weights P e) : ∀ (ds : List (DataW H)), d ∈ ds → n ∈ DataW.weightsAll P e ds
  | [], h => by simp at h
  | x :: r, h => by
    simp only [DataW.weightsAll, List.mem_append]
    rcases List.mem_cons.1 h with rfl | h
    · exact .inl hn
    · exact .inr (weightsAll_mem hn r h)

theorem opens_slice {α : Type} [Rep1 α] {P : Program} {t e : TypeId} (ht : P.underlying t = some (.slice e)) (hc : P.cellsOf e = Rep.sz α) (hb : 1 ≤ P.bytesOf e) (ho : Opens α P e) : Opens (List α) P t := by
  intro H enc w held fuel cs d pl h hw
  have hpos := Rep1.pos (α := α)
  rcases open_slice ht h with ⟨rfl, _⟩ | ⟨a, len, cap, m, n, D, Pl, rfl, _, hl, hm, hmm, hx, he⟩
  · exact ⟨[], none, 0, 0, rfl, rfl, Nat.le_refl _, by simp [capOk], by omega, .inl rfl⟩
  obtain ⟨rfl, rfl⟩ := Prod.mk.inj hx
  simp only [if_true] at hmm
  subst hmm
  have hw1 : m * P.bytesOf e ≤ reachBytes := by
    have := hw ((((List.range len).map D).length + ((List.range (m - len)).map fun j => D (len + j)).length) * P.bytesOf e) (by simp [DataW.weights, ht])
    simp only [List.length_map, List.length_range] at this
    rwa [show len + (m - len) = m by omega] at this
  have hw2 : m ≤ reachBytes := Nat.le_trans (by simpa using Nat.mul_le_mul_left m hb) hw1
  have hr : reachBytes ≤ 140737488355328 := by decide
  have hmx : maxLen = 9223372036854775807 := by decide
  obtain ⟨xs, hlen, hxs⟩ := list_of (α := α) (p := fun i x => ∃ es, w.cells? 0 (a.add (i * Rep.sz α)) (Rep.sz α) = some es ∧ Rep.rd w [] x es) len (fun i hi => by
    obtain ⟨cs', h1, h2⟩ := he i (by omega)
    rw [hc] at h1
    obtain ⟨v, hv⟩ := ho H enc w held n cs' (D i) (Pl i) h2 (fun k hk => hw k (by
      simp only [DataW.weights, ht, List.mem_cons, List.mem_append]
      exact .inr (.inl (weightsAll_mem hk _ (List.mem_map.2 ⟨i, List.mem_range.2 hi, rfl⟩)))))
    exact ⟨v, cs', h1, hv⟩)
  refine ⟨xs, some a, len, m, rfl, hlen, hl, by unfold capOk; omega, by omega, ?_⟩
  by_cases h0 : len = 0
  · left; subst h0; simpa using hlen
  right
  obtain ⟨b, o, spot⟩ := a
  have hspot : spot = none := by
    obtain ⟨es, h1, -⟩ := hxs 0 (xs[0]'(by omega)) (List.getElem?_eq_getElem (by omega))
    obtain ⟨_, hl1, h2⟩ := World.cells?_some h1
    have h3 := h2 0 hpos
    rw [List.getElem?_eq_getElem (by omega)] at h3
    simpa [Addr.add] using World.cell?_spot h3
  subst hspot
  refine ⟨b, o, rfl, fun k x hk => ?_⟩
  obtain ⟨es, h1, h2⟩ := hxs k x hk
  refine ⟨es, h2, by simp, fun j u hu => ?_⟩
  obtain ⟨_, hl1, h3⟩ := World.cells?_some h1
  have := h3 j (by rw [← hl1]; exact (List.getElem?_eq_some_iff.1 hu).1)
  rw [hu, Go.WideShapes.add_plain, Go.WideShapes.add_plain] at this
  exact this

/-- A struct each of whose fields takes one cell. -/
theorem trod_cells1 {H : Type} {enc : TypeId × Value → H} {P : Program} {w : World} {base : Nat} {spare : Nat → Bool} {held : Bool} {fuel : Nat} {t : TypeId} {fs : Array Field} {cs : List Value} {d : DataW H} {pl : List MemPlace}
    (hs : P.underlying t = some (.struct fs)) (hone : oneCellFields P fs = true) (hC : P.cellsOf t = fs.size) (h : DataW.trod enc P w base spare held fuel t cs = some (d, pl)) :
    cs.length = fs.size ∧ ∃ (n : Nat) (ds : List (DataW H)), d = .agg ds ∧ ∀ (i : Nat) (f : Field), fs[i]? = some f → ∃ c y q, cs[i]? = some c ∧ ds[i]? = some y ∧ DataW.trod enc P w base spare held n f.type [c] = some (y, q) := by
  obtain ⟨xs, n, _, hx, hl, hlen, hf⟩ := DataW.trod_struct hs h
  obtain ⟨rfl, rfl⟩ := Prod.mk.inj hx
  refine ⟨hl.trans hC, n, _, rfl, fun i f hi => ?_⟩
  obtain ⟨o, k⟩ := hone_of hone i f hi
  have hii : i < fs.size := (Array.getElem?_eq_some_iff.1 hi).1
  have h2 := hf i f hi
  rw [List.getElem?_eq_getElem (by omega), o, k] at h2
  have hcl : i < cs.length := by omega
  rw [List.drop_eq_getElem_cons hcl] at h2
  exact ⟨cs[i], xs[i].1, xs[i].2, List.getElem?_eq_getElem hcl, by simp [List.getElem?_eq_getElem (show i < xs.length by omega)], by simp only [List.take_succ_cons, List.take_zero] at h2; exact h2⟩
end Go.Proofs.Ythbbefkmnahnlaa
