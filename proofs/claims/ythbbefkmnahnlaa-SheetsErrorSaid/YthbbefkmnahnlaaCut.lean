/- Parts of slices; appending a whole slice of integers. No statement is proved here. -/
import Derived.Test.YthbbefkmnahnlaaRead
import Derived.Laws.OwnMore
namespace Go.Proofs.Ythbbefkmnahnlaa
open Go.RowKit

section
variable {α : Type} [Rep1 α] {M : List Nat} {w : World} {A : Option Addr} {n c : Nat} {xs : List α}
theorem Sl.cutTo (h : Sl α w M A n c xs) {k : Nat} (hk : k ≤ n) : Sl α w M A k c (xs.take k) := by
  refine ⟨by simp [h.len]; omega, Nat.le_trans hk h.cap, h.room, Nat.le_trans hk h.small, ?_⟩
  rcases h.at_ with g | ⟨b, o, rfl, g⟩
  · left; simp [g]
  · right
    refine ⟨b, o, rfl, fun j x hx => g j x ?_⟩
    have : j < k := by
      have := (List.getElem?_eq_some_iff.1 hx).1
      simp at this; omega
    rwa [List.getElem?_take_of_lt this] at hx

theorem Sl.cutFrom (h : Sl α w M A n c xs) {k : Nat} (hk : k ≤ n) {A' : Option Addr} (hA : k < n → ∀ b o, A = some ⟨b, o, none⟩ → A' = some ⟨b, o + k * Rep.sz α, none⟩) : Sl α w M A' (n - k) (c - k) (xs.drop k) := by
  have h1 := h.len
  have h2 := h.cap
  refine ⟨by simp [h.len], by omega, by have := h.room; unfold capOk at *; omega, by have := h.small; omega, ?_⟩
  by_cases hkn : k = n
  · left; exact List.drop_of_length_le (by omega)
  rcases h.at_ with g | ⟨b, o, rfl, g⟩
  · left; simp [g]
  · right
    refine ⟨b, o + k * Rep.sz α, hA (by omega) b o rfl, fun j x hx => ?_⟩
    rw [List.getElem?_drop] at hx
    obtain ⟨es, e1, e2⟩ := g _ x hx
    exact ⟨es, e1, by rwa [show o + (k + j) * Rep.sz α = o + k * Rep.sz α + j * Rep.sz α by rw [Nat.add_mul, Nat.add_assoc]] at e2⟩
end

theorem run_append_none' {w : World} (base : Nat) (t ty e : TypeId) (i : TypeInfo) (size c : Nat) (ht : Try.prog.underlying t = some (.slice e)) (hi : Try.prog.info? e = some i)
    (v : Value) (n : Nat) (xs : List Value) (hown : w.ownsRow base e size v n xs) :
    (Builtin.append_ #[t, t] ty #[v, .slice none 0 c]).run Try.prog w = .ok v w := by
  rcases hown.2 with ⟨rfl, rfl⟩ | ⟨g, cap, cur, rfl, _, _, hnc, _⟩
  · simp [Builtin.append_, run_underlying ht, sizeOf, typeInfo, hi, Builtin.lenOf, Builtin.firstCells]
  · simp [Builtin.append_, run_underlying ht, sizeOf, typeInfo, hi, Builtin.lenOf, Builtin.firstCells, hnc, storeCells]

theorem append_ints {w : World} {base : Nat} {v : Value} {n : Nat} {xs : List Int} (h : w.ownsRow base 3 1 v n (xs.map (Value.int .i64))) (hb : base ≤ w.heap.size) {M : List Nat} {A : Option Addr} {m c : Nat} {ys : List Int}
    (hs : Sl Int w M A m c ys) (hn : n + m ≤ 1000000000) :
    ∃ v' w', (Builtin.append_ #[23, 23] 23 #[v, .slice A m c]).run Try.prog w = .ok v' w' ∧ w'.ownsRow base 3 1 v' (n + m) ((xs ++ ys).map (Value.int .i64)) ∧ w.grownBy w' v.ownBlock ∧
      (v'.ownBlock = v.ownBlock ∨ v'.ownBlock = some w.heap.size) := by
  obtain ⟨i0, hi, hz0, hz1, hz2⟩ := info_parts int_info
  by_cases hA : ∃ a, A = some a
  · obtain ⟨a, rfl⟩ := hA
    obtain ⟨v', w', h1, h2, h3, _, h5⟩ := run_append_own_at (P := Try.prog) w base 23 23 3 i0 (.int .i64 0) 1 8 Try.underlying23 hi hz0 hz1 hz2 rfl (by decide) v n _ h a m c (ys.map (Value.int .i64)) (by simp [hs.len])
      (by
        intro j u hu
        rw [List.getElem?_map] at hu
        obtain ⟨x, hx, rfl⟩ := Option.map_eq_some_iff.1 hu
        obtain ⟨b, o, x', e, hc, -, -, hx'⟩ := hs.intd (k := j) (by rw [← hs.len]; exact (List.getElem?_eq_some_iff.1 hx).1)
        obtain rfl := Option.some.inj e
        rw [hx] at hx'
        obtain rfl := Option.some.inj hx'
        rwa [Go.WideShapes.add_plain]) (by
        intro u hu
        obtain ⟨x, -, rfl⟩ := List.mem_map.1 hu
        rfl) (by unfold maxLen; omega) (by omega) hb
    rw [List.map_append]
    exact ⟨v', w', h1, h2, h3, h5⟩
  · have hA' : A = none := by cases A with | none => rfl | some a => exact absurd ⟨a, rfl⟩ hA
    subst hA'
    have hy : ys = [] := by rcases hs.at_ with g | ⟨b, o, e, _⟩; exact g; cases e
    subst hy
    obtain rfl : m = 0 := by have := hs.len; simpa using this.symm
    exact ⟨v, w, run_append_none' base _ _ 3 i0 1 c Try.underlying23 hi v n _ h, by simpa using h, ⟨rfl, rfl, rfl, Nat.le_refl _, fun _ _ _ => rfl⟩, .inl rfl⟩

theorem own_sl {w : World} {base : Nat} {v : Value} {n : Nat} {xs : List Int} (h : w.ownsRow base 3 1 v n (xs.map (Value.int .i64))) (hx : ∀ x, x ∈ xs → i64 x) (hn : n ≤ 1000000000) : ∃ A c, v = .slice A n c ∧ Sl Int w [] A n c xs := by
  have hl : xs.length = n := by simpa using h.1
  rcases h.2 with ⟨rfl, rfl⟩ | ⟨g, cap, cur, rfl, _, hh, hnc, hcm, hsz, htk⟩
  · obtain rfl : xs = [] := List.length_eq_zero_iff.1 hl
    exact ⟨none, 0, rfl, Sl.nil_⟩
  · refine ⟨_, cap, rfl, hl, hnc, by simpa [capOk, maxLen] using hcm, by omega, .inr ⟨g, 0, rfl, fun k x hk => ⟨[.int .i64 x], ⟨rfl, hx x (List.mem_of_getElem? hk)⟩, by simp, fun j u hu => ?_⟩⟩⟩
    match j, hu with
    | 0, hu =>
      cases hu
      have h1 : (cur.toList.take (n * 1))[k]? = some (.int .i64 x) := by rw [htk, List.getElem?_map, hk]; rfl
      have hkn : k < n := by rw [← hl]; exact (List.getElem?_eq_some_iff.1 hk).1
      rw [List.getElem?_take_of_lt (by omega)] at h1
      simp only [Array.getElem?_toList] at h1
      simp [World.cell?, hh, h1, show Rep.sz Int = 1 from rfl]

theorem slice_to {t e : TypeId} (ht : Try.prog.underlying t = some (.slice e)) {sz : Nat} (hz : ∀ w, (sizeOf e).run Try.prog w = .ok sz w) (A : Option Addr) {n cp k : Nat} (hk : k ≤ n) (hn : n ≤ cp) (w : World) :
    (Instr.sliceAt t (.slice A n cp) none (some (.int .i64 (k : Int))) none).run Try.prog w = .ok (.slice A k cp) w := by
  have he : Try.prog.elem t = e := by simp [Program.elem, ht]
  have ht' : Try.prog.underlying t = some (.slice (Try.prog.elem t)) := by rw [he]; exact ht
  rw [run_sliceAt_slice w t _ _ _ _ ht', run_slice_h w t A n cp ht' .i64 (k : Int) (by omega) (by omega), he, hz]
  have e2 : A.map (fun a : Addr => a.add (0 * sz)) = A := by cases A <;> simp [Addr.add]
  simp only [Result.andThen, sliced, e2, ite_self, Int.toNat_natCast, Nat.sub_zero]

def cutAddr (A : Option Addr) (cp k sz : Nat) : Option Addr := if cp = k then A else A.map (fun a => a.add (k * sz))

theorem slice_from {t e : TypeId} (ht : Try.prog.underlying t = some (.slice e)) {sz : Nat} (hz : ∀ w, (sizeOf e).run Try.prog w = .ok sz w) (A : Option Addr) {n cp k : Nat} (hk : k ≤ n) (w : World) :
    (Instr.sliceAt t (.slice A n cp) (some (.int .i64 (k : Int))) none none).run Try.prog w = .ok (.slice (cutAddr A cp k sz) (n - k) (cp - k)) w := by
  have he : Try.prog.elem t = e := by simp [Program.elem, ht]
  have ht' : Try.prog.underlying t = some (.slice (Try.prog.elem t)) := by rw [he]; exact ht
  rw [run_sliceAt_slice w t _ _ _ _ ht', run_slice_l w t A n cp ht' .i64 (k : Int) (by omega) (by omega), he, hz]
  simp only [Result.andThen, sliced, Int.toNat_natCast, cutAddr]

theorem Sl.cut {α : Type} [Rep1 α] {M : List Nat} {w : World} {A : Option Addr} {n c : Nat} {xs : List α} (h : Sl α w M A n c xs) {k sz : Nat} (hk : k ≤ n) (hsz : Rep.sz α = sz) : Sl α w M (cutAddr A c k sz) (n - k) (c - k) (xs.drop k) := by
  subst hsz
  refine h.cutFrom hk fun hlt b o e => ?_
  have := h.cap
  rw [cutAddr, if_neg (by omega), e, Option.map_some, Go.WideShapes.add_plain]

theorem Sl.i64s {M : List Nat} {w : World} {A : Option Addr} {n c : Nat} {xs : List Int} (h : Sl Int w M A n c xs) : ∀ x, x ∈ xs → i64 x := by
  intro x hx
  obtain ⟨k, hk⟩ := List.mem_iff_getElem?.1 hx
  rcases h.at_ with g | ⟨b, o, -, g⟩
  · rw [g] at hx; cases hx
  · obtain ⟨es, ⟨_, h1⟩, _⟩ := g k x hk
    exact h1

theorem app2 {W : World} {A D : Option Addr} {n c m e : Nat} {a d : List Int} (ha : Sl Int W [] A n c a) (hd : Sl Int W [] D m e d) (hn : n + m ≤ 1000000) :
    ∃ v1 W1 O cO W2, (Builtin.append_ #[23, 23] 23 #[.slice (some ⟨W.heap.size, 0, none⟩) 0 0, .slice A n c]).run Try.prog (W.alloc (.cells #[] 3)) = .ok v1 W1 ∧
      (Builtin.append_ #[23, 23] 23 #[v1, .slice D m e]).run Try.prog W1 = .ok (.slice O (n + m) cO) W2 ∧ Sl Int W2 [] O (n + m) cO (a ++ d) ∧ Below W.heap.size W W2 := by
  have k0 : Keeps [] W (W.alloc (.cells #[] 3)) := (Keeps.refl _ _).alloc _
  have own0 : (W.alloc (.cells #[] 3)).ownsRow W.heap.size 3 1 (.slice (some ⟨W.heap.size, 0, none⟩) 0 0) 0 (([] : List Int).map (Value.int .i64)) := by
    simpa using World.ownsRow_lit (base := W.heap.size) (size := 1) (e := 3) W #[] 0 (Nat.le_refl _) (by simp [maxLen]) rfl
  obtain ⟨v1, W1, r1, o1, g1, b1⟩ := append_ints own0 (by simp) (ha.keep k0) (by omega)
  rw [Nat.zero_add, List.nil_append] at o1
  have k1 : Keeps [] W W1 := k0.grown g1 (fun k hk => .inr (by have e : W.heap.size = k := Option.some.inj hk; omega))
  obtain ⟨v2, W2, r2, o2, g2, b2⟩ := append_ints o1 k1.size (hd.keep k1) (by omega)
  have hv1 : ∀ k, v1.ownBlock = some k → W.heap.size ≤ k := by
    intro k hk
    rcases b1 with e | e
    · rw [e] at hk; have e : W.heap.size = k := Option.some.inj hk; omega
    · rw [e] at hk; have e : _ = k := Option.some.inj hk; have := k0.size; omega
  have bl : Below W.heap.size W W2 := (((Below.refl _ _).alloc (Nat.le_refl _) _).grown g1 (by simp) (fun k hk => by have e : W.heap.size = k := Option.some.inj hk; omega)).grown g2 k1.size hv1
  obtain ⟨O, cO, rfl, hs⟩ := own_sl o2 (fun x hx => by
    rcases List.mem_append.1 hx with hx | hx
    · exact ha.i64s x hx
    · exact hd.i64s x hx) (by omega)
  exact ⟨v1, W1, O, cO, W2, r1, r2, hs, bl⟩
end Go.Proofs.Ythbbefkmnahnlaa
