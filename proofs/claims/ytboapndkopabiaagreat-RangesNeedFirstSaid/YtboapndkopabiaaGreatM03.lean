/- Lemmas and walks (Own Big Big2 Big3). No statement is proved here. -/
import Derived.Laws.OwnMore
import Derived.Test.YtboapndkopabiaaGreatRows
import Derived.Test.YtboapndkopabiaaGreatM02
set_option linter.unusedVariables false
set_option linter.unusedSimpArgs false
namespace Go.Proofs.YtboapndkopabiaaGreat
section
open Go.RowKit
theorem Sl.nil0 {α : Type} [Rep α] {w : World} {M : List Nat} : Sl α w M none 0 0 [] := ⟨rfl, Nat.le_refl _, by simp [capOk], by omega, .inl rfl⟩
section
variable {α : Type} [Rep1 α] {M : List Nat} {w : World} {A : Option Addr} {n c : Nat} {xs : List α}
theorem Sl.cutTo (h : Sl α w M A n c xs) {k : Nat} (hk : k ≤ n) : Sl α w M A k c (xs.take k) := by
 refine ⟨by simp [h.len]; omega, Nat.le_trans hk h.cap, h.room, Nat.le_trans hk h.small, ?_⟩
 rcases h.at_ with g | ⟨b, o, rfl, g⟩
 · left; simp [g]
 · right
   refine ⟨b, o, rfl, fun j x hx => g j x ?_⟩
   have : j < k := by
    have := (List.getElem?_eq_some_iff.1 hx).1
    simp at this; omega
   rwa [List.getElem?_take_of_lt this] at hx
theorem Sl.cutFrom (h : Sl α w M A n c xs) {k : Nat} (hk : k ≤ n) {A' : Option Addr} (hA : k < n → ∀ b o, A = some ⟨b, o, none⟩ → A' = some ⟨b, o + k * Rep.sz α, none⟩) : Sl α w M A' (n - k) (c - k) (xs.drop k) := by
 have h1 := h.len
 have h2 := h.cap
 refine ⟨by simp [h.len], by omega, by have := h.room; unfold capOk at *; omega, by have := h.small; omega, ?_⟩
 by_cases hkn : k = n
 · left; exact List.drop_of_length_le (by omega)
 rcases h.at_ with g | ⟨b, o, rfl, g⟩
 · left; simp [g]
 · right
   refine ⟨b, o + k * Rep.sz α, hA (by omega) b o rfl, fun j x hx => ?_⟩; rw [List.getElem?_drop] at hx; obtain ⟨es, e1, e2⟩ := g _ x hx; exact ⟨es, e1, by rwa [show o + (k + j) * Rep.sz α = o + k * Rep.sz α + j * Rep.sz α by rw [Nat.add_mul, Nat.add_assoc]] at e2⟩
end
theorem run_append_none' {w : World} (base : Nat) (t ty e : TypeId) (i : TypeInfo) (size c : Nat) (ht : Tryz.prog.underlying t = some (.slice e)) (hi : Tryz.prog.info? e = some i)
 (v : Value) (n : Nat) (xs : List Value) (hown : w.ownsRow base e size v n xs) :
 (Builtin.append_ #[t, t] ty #[v, .slice none 0 c]).run Tryz.prog w = .ok v w := by
 rcases hown.2 with ⟨rfl, rfl⟩ | ⟨g, cap, cur, rfl, _, _, hnc, _⟩
 · simp [Builtin.append_, run_underlying ht, sizeOf, typeInfo, hi, Builtin.lenOf, Builtin.firstCells]
 · simp [Builtin.append_, run_underlying ht, sizeOf, typeInfo, hi, Builtin.lenOf, Builtin.firstCells, hnc, storeCells]
theorem slice_to {t e : TypeId} (ht : Tryz.prog.underlying t = some (.slice e)) {sz : Nat} (hz : ∀ w, (sizeOf e).run Tryz.prog w = .ok sz w) (A : Option Addr) {n cp k : Nat} (hk : k ≤ n) (hn : n ≤ cp) (w : World) :
 (Instr.sliceAt t (.slice A n cp) none (some (.int .i64 (k : Int))) none).run Tryz.prog w = .ok (.slice A k cp) w := by
 have he : Tryz.prog.elem t = e := by simp [Program.elem, ht]
 have ht' : Tryz.prog.underlying t = some (.slice (Tryz.prog.elem t)) := by rw [he]; exact ht
 rw [run_sliceAt_slice w t _ _ _ _ ht', run_slice_h w t A n cp ht' .i64 (k : Int) (by omega) (by omega), he, hz]
 have e2 : A.map (fun a : Addr => a.add (0 * sz)) = A := by cases A <;> simp [Addr.add]
 simp only [Result.andThen, sliced, e2, ite_self, Int.toNat_natCast, Nat.sub_zero]
def cutAddr (A : Option Addr) (cp k sz : Nat) : Option Addr := if cp = k then A else A.map (fun a => a.add (k * sz))
theorem slice_from {t e : TypeId} (ht : Tryz.prog.underlying t = some (.slice e)) {sz : Nat} (hz : ∀ w, (sizeOf e).run Tryz.prog w = .ok sz w) (A : Option Addr) {n cp k : Nat} (hk : k ≤ n) (w : World) :
 (Instr.sliceAt t (.slice A n cp) (some (.int .i64 (k : Int))) none none).run Tryz.prog w = .ok (.slice (cutAddr A cp k sz) (n - k) (cp - k)) w := by
 have he : Tryz.prog.elem t = e := by simp [Program.elem, ht]
 have ht' : Tryz.prog.underlying t = some (.slice (Tryz.prog.elem t)) := by rw [he]; exact ht
 rw [run_sliceAt_slice w t _ _ _ _ ht', run_slice_l w t A n cp ht' .i64 (k : Int) (by omega) (by omega), he, hz]
 simp only [Result.andThen, sliced, Int.toNat_natCast, cutAddr]
theorem Sl.cut {α : Type} [Rep1 α] {M : List Nat} {w : World} {A : Option Addr} {n c : Nat} {xs : List α} (h : Sl α w M A n c xs) {k sz : Nat} (hk : k ≤ n) (hsz : Rep.sz α = sz) : Sl α w M (cutAddr A c k sz) (n - k) (c - k) (xs.drop k) := by
 subst hsz
 refine h.cutFrom hk fun hlt b o e => ?_
 have := h.cap
 rw [cutAddr, if_neg (by omega), e, Option.map_some, Go.WideShapes.add_plain]
def Bel (M : List Nat) (w : World) : Prop := ∀ k, k ∈ M → k < w.heap.size
theorem Bel.nil (w : World) : Bel [] w := fun _ h => by cases h
theorem Bel.le {M : List Nat} {w w' : World} (h : Bel M w) (hs : w.heap.size ≤ w'.heap.size) : Bel M w' := fun k hk => Nat.lt_of_lt_of_le (h k hk) hs
theorem Sl.go {α : Type} [Rep α] {M : List Nat} {w w' : World} {A : Option Addr} {n c : Nat} {xs : List α} (h : Sl α w M A n c xs) (hb : Below w.heap.size w w') : Sl α w' M A n c xs := h.keep (Keeps.of_below hb M)
def Row (w : World) (b : Nat) (l : List Int) : Prop := w.heap[b]? = some (.cells (l.map (Value.int .i64)).toArray 3 (0, 0))
section
variable {w w' : World} {b : Nat} {l : List Int}
theorem Row.lt (h : Row w b l) : b < w.heap.size := (Array.getElem?_eq_some_iff.1 h).1
theorem Row.cell (h : Row w b l) {k : Nat} {x : Int} (hk : l[k]? = some x) : w.cell? ⟨b, k, none⟩ = some (.int .i64 x) := by
 unfold Row at h
 simp [World.cell?, h, hk]
theorem Row.free (h : Row w b l) (k : Nat) : w.frozen? ⟨b, k, none⟩ = false := by
 unfold Row at h
 simp [World.frozen?, h]
theorem Row.put (h : Row w b l) (k : Nat) (x : Int) : Row (w.setCell ⟨b, k, none⟩ (.int .i64 x)) b (l.set k x) := by
 unfold Row at *
 simp only [World.setCell, Array.getElem?_modify, if_true]
 rw [h]
 simp only [Option.map_some, Option.isSome_none, Bool.false_eq_true, if_false, List.setIfInBounds_toArray, List.map_set]
theorem Row.drew (h : Row w b l) : Row w.drew b l := h
theorem Row.go (h : Row w b l) {s : Nat} (hb : Below s w w') (hs : b < s) : Row w' b l := by unfold Row at *; rw [hb.block b hs]; exact h
theorem Row.put_other (h : Row w b l) {g : Nat} (hg : b ≠ g) (k : Nat) (u : Value) : Row (w.setCell ⟨g, k, none⟩ u) b l := by
 unfold Row at *
 rw [Below.heap_setCell w _ _ b hg]; exact h
theorem Row.al (h : Row w b l) (o : Obj) : Row (w.alloc o) b l := by have hl := h.lt; unfold Row at *; rw [Below.heap_alloc w o b hl]; exact h
theorem Row.sl (h : Row w b l) {M : List Nat} (hM : b ∉ M) {n : Nat} (hn : l.length = n) (hs : n ≤ 1000000) (hi : ∀ x, x ∈ l → i64 x) : Sl Int w M (some ⟨b, 0, none⟩) n n l := by
 refine ⟨hn, Nat.le_refl _, by unfold capOk; omega, by omega, .inr ⟨b, 0, rfl, fun k x hk => ⟨_, ⟨rfl, hi x (List.mem_of_getElem? hk)⟩, hM, fun j u hu => ?_⟩⟩⟩
 match j, hu with
 | 0, hu =>
   cases hu
   simpa [show Rep.sz Int = 1 from rfl] using h.cell hk
end
theorem made_ints (N : Nat) : madeCells (Value.int .i64 0).cells (N * 1) = ((List.replicate N (0 : Int)).map (Value.int .i64)).toArray := by
 apply Array.ext
 · simp [madeCells]
 · intro i h1 h2
   have e : i % 1 = 0 := Nat.mod_one i
   simp [madeCells, Value.cells, e]
theorem mk_ints {t : TypeId} (ht : Tryz.prog.underlying t = some (.slice 3)) (N : Nat) (hN : N ≤ 1000000) (w : World) : (Instr.makeSlice t (.int .i64 (N : Int)) (.int .i64 (N : Int))).run Tryz.prog w = .ok (.slice (some ⟨w.heap.size, 0, none⟩) N N) (w.alloc (.cells ((List.replicate N (0 : Int)).map (Value.int .i64)).toArray 3)) := by
 obtain ⟨i0, hi, hz0, hz1, hz2⟩ := info_parts int_info
 have := run_make (P := Tryz.prog) w t 3 i0 (.int .i64 0) ht hi hz0 .i64 .i64 (N : Int) (N : Int) (by omega) (Int.le_refl _) (by rw [hz2]; omega) (by omega)
 rw [this, hz1]
 simp only [Int.toNat_natCast, made_ints]
theorem Row.new (N : Nat) (w : World) : Row (w.alloc (.cells ((List.replicate N (0 : Int)).map (Value.int .i64)).toArray 3)) w.heap.size (List.replicate N 0) := heap_alloc_new w _
class RepC (α : Type) extends Rep1 α where
 one : ∀ {w M x cs}, rd w M x cs → ∀ u, u ∈ cs → u.oneCell' = true
instance : RepC Int := ⟨by rintro w M x cs ⟨rfl, _⟩ u hu; simp at hu; subst hu; rfl⟩
instance : RepC Bool := ⟨by rintro w M x cs h u hu; have h : cs = _ := h; subst h; simp at hu; subst hu; rfl⟩
instance {α : Type} [Rep1 α] : RepC (List α) := ⟨by rintro w M x cs ⟨A, n, c, rfl, _⟩ u hu; simp at hu; subst hu; rfl⟩
instance {α β : Type} [RepC α] [RepC β] : RepC (α × β) := ⟨by
 rintro w M x cs ⟨ds, es, rfl, h1, h2⟩ u hu
 rcases List.mem_append.1 hu with hu | hu
 · exact RepC.one h1 u hu
 · exact RepC.one h2 u hu⟩
theorem Sl.row {α : Type} [RepC α] {w : World} {M : List Nat} {b o n c : Nat} {ys : List α} (h : Sl α w M (some ⟨b, o, none⟩) n c ys) :
 ∃ cs : List Value, cs.length = n * Rep.sz α ∧ (∀ j u, cs[j]? = some u → w.cell? ⟨b, o + j, none⟩ = some u) ∧ (∀ u, u ∈ cs → u.oneCell' = true) ∧ ∀ k y, ys[k]? = some y → ∃ es, Rep.rd w M y es ∧ ∀ j u, es[j]? = some u → cs[k * Rep.sz α + j]? = some u := by
 have hp := Rep1.pos (α := α)
 have key : ∀ k y, ys[k]? = some y → ∃ es, Rep.rd w M y es ∧ ∀ j u, es[j]? = some u → w.cell? ⟨b, o + (k * Rep.sz α + j), none⟩ = some u := by
  intro k y hy
  rcases h.at_ with g | ⟨b', o', e, g⟩
  · rw [g] at hy; simp at hy
  · obtain ⟨es, h1, h2⟩ := g k y hy
    cases e; exact ⟨es, h1, fun j u hu => by have := h2.2 j u hu; rwa [Nat.add_assoc] at this⟩
 have inside : ∀ j, j < n * Rep.sz α → ∃ u, w.cell? ⟨b, o + j, none⟩ = some u ∧ u.oneCell' = true := by
  intro j hj
  have hk : j / Rep.sz α < ys.length := by rw [h.len]; exact (Nat.div_lt_iff_lt_mul hp).2 hj
  obtain ⟨es, h1, h2⟩ := key _ _ (List.getElem?_eq_getElem hk)
  have hm : j % Rep.sz α < es.length := by rw [Rep.len h1]; exact Nat.mod_lt _ hp
  refine ⟨es[j % Rep.sz α], ?_, RepC.one h1 _ (List.getElem_mem hm)⟩; have := h2 _ _ (List.getElem?_eq_getElem hm)
  rwa [Nat.mul_comm, Nat.div_add_mod] at this
 have at_ : ∀ j, j < n * Rep.sz α → ∀ u, w.cell? ⟨b, o + j, none⟩ = some u → ((List.range (n * Rep.sz α)).map (fun j => (w.cell? ⟨b, o + j, none⟩).getD undef))[j]? = some u := by
  intro j hj u hu
  simp [hj, hu]
 refine ⟨(List.range (n * Rep.sz α)).map (fun j => (w.cell? ⟨b, o + j, none⟩).getD undef), by simp, ?_, ?_, ?_⟩
 · intro j u hu
   have hj : j < n * Rep.sz α := by simpa using (List.getElem?_eq_some_iff.1 hu).1
   obtain ⟨v, hv, _⟩ := inside j hj; rw [at_ j hj v hv] at hu
   obtain rfl := Option.some.inj hu
   exact hv
 · intro u hu
   obtain ⟨j, hj, rfl⟩ := List.mem_map.1 hu; obtain ⟨v, hv, h1⟩ := inside j (by simpa using hj); rw [hv]; exact h1
 · intro k y hy
   obtain ⟨es, h1, h2⟩ := key k y hy; refine ⟨es, h1, fun j u hu => at_ _ ?_ u (h2 j u hu)⟩
   have hj : j < Rep.sz α := by rw [← Rep.len h1]; exact (List.getElem?_eq_some_iff.1 hu).1
   have hk : k < n := by rw [← h.len]; exact (List.getElem?_eq_some_iff.1 hy).1
   have : (k + 1) * Rep.sz α ≤ n * Rep.sz α := Nat.mul_le_mul_right _ hk; rw [Nat.add_mul, Nat.one_mul] at this; omega
def ownL (v : Value) : List Nat := v.ownBlock.toList
theorem mem_ownL {v : Value} {k : Nat} : k ∈ ownL v ↔ v.ownBlock = some k := by unfold ownL; cases v.ownBlock <;> simp [eq_comm]
structure OwnS (α : Type) [RepC α] (e : TypeId) (w : World) (M : List Nat) (base : Nat) (v : Value) (n : Nat) (xs : List α) : Prop where
 len : xs.length = n
 ex : ∃ cs : List Value, w.ownsRow base e (Rep.sz α) v n cs ∧ ∀ k x, xs[k]? = some x → ∃ es, Rep.rd w (ownL v ++ M) x es ∧ ∀ j u, es[j]? = some u → cs[k * Rep.sz α + j]? = some u
section
variable {α : Type} [RepC α] {e : TypeId} {w w' : World} {M : List Nat} {base : Nat} {v : Value} {n : Nat} {xs ys : List α}
theorem own_stay {size : Nat} {cs : List Value} (h : w.ownsRow base e size v n cs) (hb : ∀ k, v.ownBlock = some k → k < w.heap.size → w'.heap[k]? = w.heap[k]?) : w'.ownsRow base e size v n cs := by
 refine ⟨h.1, ?_⟩
 rcases h.2 with g | ⟨g, cap, cur, rfl, h1, h2, h3⟩
 · exact .inl g
 · exact .inr ⟨g, cap, cur, rfl, h1, (hb g rfl (Array.getElem?_eq_some_iff.1 h2).1).trans h2, h3⟩
theorem OwnS.go (h : OwnS α e w M base v n xs) (hb : Below w.heap.size w w') : OwnS α e w' M base v n xs := by
 obtain ⟨cs, h1, h2⟩ := h.ex
 refine ⟨h.len, cs, own_stay h1 (fun k _ hk => hb.block k hk), fun k x hx => ?_⟩
 obtain ⟨es, a, b⟩ := h2 k x hx
 exact ⟨es, Rep.keep a (Keeps.of_below hb _), b⟩
theorem OwnS.lt (h : OwnS α e w M base v n xs) {k : Nat} (hk : v.ownBlock = some k) : base ≤ k ∧ k < w.heap.size := by
 obtain ⟨cs, h1, -⟩ := h.ex
 exact h1.lt k hk
theorem OwnS.nil (w : World) (M : List Nat) (base : Nat) : OwnS α e w M base (.slice none 0 0) 0 [] := ⟨rfl, [], World.ownsRow_nil _ _ _ _, fun k x hx => by simp at hx⟩
theorem OwnS.lit (w : World) (M : List Nat) {base : Nat} (hb : base ≤ w.heap.size) : OwnS α e (w.alloc (.cells #[] e)) M base (.slice (some ⟨w.heap.size, 0, none⟩) 0 0) 0 [] :=
 ⟨rfl, [], by simpa using World.ownsRow_lit (base := base) (size := Rep.sz α) (e := e) w #[] 0 hb (by simp [maxLen]) (by simp), fun k x hx => by simp at hx⟩
theorem OwnS.sl (h : OwnS α e w M base v n xs) (hn : n ≤ 1000000000) (hd : ∀ k, k ∈ M → k < base) : ∃ A c, v = .slice A n c ∧ Sl α w M A n c xs := by
 obtain ⟨cs, h1, h2⟩ := h.ex
 rcases h1.2 with ⟨rfl, rfl⟩ | ⟨g, cap, cur, rfl, hb, hh, hnc, hcm, hsz, htk⟩
 · have : xs = [] := List.length_eq_zero_iff.1 h.len
   subst this; exact ⟨none, 0, rfl, Sl.nil0⟩
 · refine ⟨_, cap, rfl, h.len, hnc, by simpa [capOk, maxLen] using hcm, by omega, .inr ⟨g, 0, rfl, fun k x hk => ?_⟩⟩
   obtain ⟨es, a, b⟩ := h2 k x hk; refine ⟨es, Rep.less a (fun q hq => List.mem_append_right _ hq), fun hm => by have := hd g hm; omega, fun j u hu => ?_⟩; have h3 := b j u hu; have hlt := (List.getElem?_eq_some_iff.1 h3).1; have := h1.1; rw [← htk, List.getElem?_take_of_lt (by omega), Array.getElem?_toList] at h3
   simp [World.cell?, hh, h3]
theorem OwnS.appendN {t ty : TypeId} {i : TypeInfo} {z : Value} (h : OwnS α e w M base v n xs) (hb : base ≤ w.heap.size) (ht : Tryz.prog.underlying t = some (.slice e)) (hi : Tryz.prog.info? e = some i) (hz : i.zero = some z) (hs : i.size = Rep.sz α) (hzs : z.cells.size = Rep.sz α)
 {A : Option Addr} {m c : Nat} (hy : Sl α w (ownL v ++ M) A m c ys) (hnm : (n + m) * i.bytes ≤ 140737488355328) (hn2 : n + m ≤ 1000000000) :
 ∃ v' w', (Builtin.append_ #[t, t] ty #[v, .slice A m c]).run Tryz.prog w = .ok v' w' ∧ OwnS α e w' M base v' (n + m) (xs ++ ys) ∧ w.grownBy w' v.ownBlock ∧ (v'.ownBlock = v.ownBlock ∨ v'.ownBlock = some w.heap.size) := by
 obtain ⟨cs, h1, h2⟩ := h.ex
 have hp := Rep1.pos (α := α)
 by_cases hA : ∃ a, A = some a
 · obtain ⟨a, rfl⟩ := hA
   by_cases hm : m = 0
   · subst hm
     have hys : ys = [] := List.length_eq_zero_iff.1 hy.len; subst hys; obtain ⟨v', w', r1, r2, r3, _, r5⟩ := run_append_own_at (P := Tryz.prog) w base t ty e i z (Rep.sz α) i.bytes ht hi hz hs rfl hzs hp v n cs h1 a 0 c [] (by simp) (by simp) (by simp) (by unfold maxLen; omega) (by omega) hb; refine ⟨v', w', r1, ?_, r3, r5⟩; rw [List.append_nil] at r2 ⊢; refine ⟨h.len, cs, r2, fun k x hx => ?_⟩; obtain ⟨es, q1, q2⟩ := h2 k x hx; refine ⟨es, ?_, q2⟩
     rcases r5 with e5 | e5
     · have : ownL v' = ownL v := by unfold ownL; rw [e5]
       rw [this]; exact Rep.keep q1 ⟨r3.size, fun q hq hm => r3.block q hq (fun e6 => hm (List.mem_append_left _ (mem_ownL.2 e6.symm)))⟩
     · have q3 : Rep.rd w (w.heap.size :: (ownL v ++ M)) x es := Rep.more q1 (Nat.le_refl _)
       have q4 := Rep.keep q3 (w' := w') ⟨r3.size, fun q hq hm => r3.block q hq (fun e6 => hm (List.mem_cons_of_mem _ (List.mem_append_left _ (mem_ownL.2 e6.symm))))⟩; refine Rep.less q4 (fun q hq => ?_)
       rcases List.mem_append.1 hq with hq | hq
       · rw [mem_ownL, e5] at hq; rw [← Option.some.inj hq]; exact List.mem_cons_self
       · exact List.mem_cons_of_mem _ (List.mem_append_right _ hq)
   · have hne : ys ≠ [] := fun e0 => hm (by rw [← hy.len, e0]; rfl)
     obtain ⟨b, o, rfl⟩ : ∃ b o, a = ⟨b, o, none⟩ := by
      rcases hy.at_ with g | ⟨b, o, e0, _⟩
      · exact absurd g hne
      · exact ⟨b, o, Option.some.inj e0⟩
     obtain ⟨ns, n1, n2, n3, n4⟩ := hy.row; obtain ⟨v', w', r1, r2, r3, _, r5⟩ := run_append_own_at (P := Tryz.prog) w base t ty e i z (Rep.sz α) i.bytes ht hi hz hs rfl hzs hp v n cs h1 ⟨b, o, none⟩ m c ns n1 (fun j u hu => by rw [Go.WideShapes.add_plain]; exact n2 j u hu) n3 (by unfold maxLen; omega) hnm hb; refine ⟨v', w', r1, ?_, r3, r5⟩
     have turn : ∀ {x : α} {es : List Value}, Rep.rd w (ownL v ++ M) x es → Rep.rd w' (ownL v' ++ M) x es := by
      intro x es q1
      rcases r5 with e5 | e5
      · have : ownL v' = ownL v := by unfold ownL; rw [e5]
        rw [this]; exact Rep.keep q1 ⟨r3.size, fun q hq hm => r3.block q hq (fun e6 => hm (List.mem_append_left _ (mem_ownL.2 e6.symm)))⟩
      · have q3 : Rep.rd w (w.heap.size :: (ownL v ++ M)) x es := Rep.more q1 (Nat.le_refl _)
        have q4 := Rep.keep q3 (w' := w') ⟨r3.size, fun q hq hm => r3.block q hq (fun e6 => hm (List.mem_cons_of_mem _ (List.mem_append_left _ (mem_ownL.2 e6.symm))))⟩; refine Rep.less q4 (fun q hq => ?_)
        rcases List.mem_append.1 hq with hq | hq
        · rw [mem_ownL, e5] at hq; rw [← Option.some.inj hq]; exact List.mem_cons_self
        · exact List.mem_cons_of_mem _ (List.mem_append_right _ hq)
     refine ⟨by rw [List.length_append, h.len, hy.len], cs ++ ns, r2, fun k x hx => ?_⟩; have hl := h1.1
     rcases Nat.lt_or_ge k n with hk | hk
     · rw [List.getElem?_append_left (by rw [h.len]; exact hk)] at hx
       obtain ⟨es, q1, q2⟩ := h2 k x hx; refine ⟨es, turn q1, fun j u hu => ?_⟩; have := q2 j u hu; rw [List.getElem?_append_left (List.getElem?_eq_some_iff.1 this).1]; exact this
     · rw [List.getElem?_append_right (by rw [h.len]; exact hk), h.len] at hx
       obtain ⟨es, q1, q2⟩ := n4 _ x hx; refine ⟨es, turn q1, fun j u hu => ?_⟩; have := q2 j u hu; rw [List.getElem?_append_right (by rw [hl]; have := Nat.mul_le_mul_right (Rep.sz α) hk; omega), hl]
       rwa [show k * Rep.sz α + j - n * Rep.sz α = (k - n) * Rep.sz α + j by rw [Nat.sub_mul]; have := Nat.mul_le_mul_right (Rep.sz α) hk; omega]
 · have hA' : A = none := by cases A with | none => rfl | some a => exact absurd ⟨a, rfl⟩ hA
   subst hA'
   have hys : ys = [] := by rcases hy.at_ with g | ⟨b, o, e0, _⟩; exact g; cases e0
   subst hys
   obtain rfl : m = 0 := by have := hy.len; simpa using this.symm
   exact ⟨v, w, run_append_none' base _ _ e i (Rep.sz α) c ht hi v n _ h1, by simpa using h, ⟨rfl, rfl, rfl, Nat.le_refl _, fun _ _ _ => rfl⟩, .inl rfl⟩
theorem OwnS.append {t ty : TypeId} {i : TypeInfo} {z : Value} (h : OwnS α e w M base v n xs) (hb : base ≤ w.heap.size) (ht : Tryz.prog.underlying t = some (.slice e)) (hi : Tryz.prog.info? e = some i) (hz : i.zero = some z) (hs : i.size = Rep.sz α) (hzs : z.cells.size = Rep.sz α)
 (_hM : ∀ k, k ∈ M → k < base) {A : Option Addr} {m c : Nat} (hy : Sl α w (ownL v ++ M) A m c ys) (hnm : (n + m) * i.bytes ≤ 140737488355328) (hn2 : n + m ≤ 1000000000) :
 ∃ v' w', (Builtin.append_ #[t, t] ty #[v, .slice A m c]).run Tryz.prog w = .ok v' w' ∧ OwnS α e w' M base v' (n + m) (xs ++ ys) ∧ w.grownBy w' v.ownBlock ∧ (v'.ownBlock = v.ownBlock ∨ v'.ownBlock = some w.heap.size) :=
 h.appendN hb ht hi hz hs hzs hy hnm hn2
end
end
section
def BB : Nat := 1073741824
theorem BB_pos : 0 < BB := by decide
theorem BB_two : 2 ≤ BB := by decide
def val : List Nat → Nat
 | [] => 0
 | d :: r => d + BB * val r
def Good (l : List Nat) : Prop := ∀ d, d ∈ l → d < BB
def dig (n : Nat) : List Nat := if _h : n = 0 then [] else n % BB :: dig (n / BB)
termination_by n
decreasing_by exact Nat.div_lt_self (by omega) BB_two
theorem dig_zero : dig 0 = [] := by rw [dig]; simp
theorem dig_pos {n : Nat} (h : n ≠ 0) : dig n = n % BB :: dig (n / BB) := by rw [dig]; simp [h]
theorem val_dig (n : Nat) : val (dig n) = n := by
 induction n using Nat.strongRecOn with
 | _ n ih =>
   by_cases h : n = 0
   · subst h; rw [dig_zero]; rfl
   · rw [dig_pos h, val, ih (n / BB) (Nat.div_lt_self (by omega) BB_two)]
     exact Nat.mod_add_div n BB
theorem good_dig (n : Nat) : Good (dig n) := by
 induction n using Nat.strongRecOn with
 | _ n ih =>
   by_cases h : n = 0
   · subst h; rw [dig_zero]; intro d hd; cases hd
   · rw [dig_pos h]
     intro d hd
     rcases List.mem_cons.1 hd with rfl | hd
     · exact Nat.mod_lt _ BB_pos
     · exact ih (n / BB) (Nat.div_lt_self (by omega) BB_two) d hd
def topped : List Nat → Bool
 | [] => true
 | [d] => d != 0
 | _ :: e :: r => topped (e :: r)
theorem topped_tail {d : Nat} {r : List Nat} (h : topped (d :: r) = true) : topped r = true := by
 cases r with
 | nil => rfl
 | cons e r => exact h
theorem good_tail {d : Nat} {r : List Nat} (h : Good (d :: r)) : d < BB ∧ Good r := ⟨h d List.mem_cons_self, fun x hx => h x (List.mem_cons_of_mem _ hx)⟩
theorem good_cons {d : Nat} {r : List Nat} (h : d < BB) (g : Good r) : Good (d :: r) := by
 intro x hx
 rcases List.mem_cons.1 hx with rfl | hx
 · exact h
 · exact g x hx
theorem good_nil : Good [] := fun _ h => by cases h
theorem topped_pos : ∀ {d : Nat} {r : List Nat}, topped (d :: r) = true → 0 < val (d :: r)
 | d, [], h => by
   simp [topped] at h
   simp [val]; omega
 | d, e :: r, h => by
   have := topped_pos (d := e) (r := r) h; have h2 : 0 < BB * val (e :: r) := Nat.mul_pos BB_pos this; rw [val]; omega
theorem dig_val : ∀ (l : List Nat), Good l → topped l = true → dig (val l) = l
 | [], _, _ => dig_zero
 | d :: r, hg, ht => by
   obtain ⟨h1, h2⟩ := good_tail hg; have hp := topped_pos ht; rw [dig_pos (by omega)]
   have e1 : val (d :: r) % BB = d := by rw [val, Nat.add_mul_mod_self_left, Nat.mod_eq_of_lt h1]
   have e2 : val (d :: r) / BB = val r := by rw [val, Nat.add_mul_div_left _ _ BB_pos, Nat.div_eq_of_lt h1, Nat.zero_add]
   rw [e1, e2, dig_val r h2 (topped_tail ht)]
theorem topped_dig (n : Nat) : topped (dig n) = true := by
 induction n using Nat.strongRecOn with
 | _ n ih =>
   by_cases h : n = 0
   · subst h; rw [dig_zero]; rfl
   · rw [dig_pos h]
     have := ih (n / BB) (Nat.div_lt_self (by omega) BB_two)
     by_cases h2 : n / BB = 0
     · rw [h2, dig_zero]
       have h3 : n < BB := by
        rcases Nat.lt_or_ge n BB with g | g
        · exact g
        · have := Nat.div_pos g BB_pos; omega
       simp only [topped, bne_iff_ne, ne_eq]; rw [Nat.mod_eq_of_lt h3]; exact h
     · rw [dig_pos h2] at this ⊢
       exact this
theorem val_append (a b : List Nat) : val (a ++ b) = val a + BB ^ a.length * val b := by
 induction a with
 | nil => simp [val]
 | cons d r ih => rw [List.cons_append, val, ih, val, List.length_cons, Nat.pow_succ, Nat.mul_add, ← Nat.mul_assoc, Nat.mul_comm BB (BB ^ r.length), Nat.add_assoc]
theorem val_zeros (n : Nat) : val (List.replicate n 0) = 0 := by
 induction n with
 | zero => rfl
 | succ n ih => rw [List.replicate_succ, val, ih, Nat.mul_zero, Nat.add_zero]
theorem val_lt : ∀ (l : List Nat), Good l → val l < BB ^ l.length
 | [], _ => by simp [val]
 | d :: r, h => by
   obtain ⟨h1, h2⟩ := good_tail h; have := val_lt r h2; rw [val, List.length_cons, Nat.pow_succ, Nat.mul_comm (BB ^ r.length)]; have : BB * (val r + 1) ≤ BB * BB ^ r.length := Nat.mul_le_mul_left _ this; rw [Nat.mul_add, Nat.mul_one] at this; omega
theorem val_ge : ∀ {l : List Nat}, l ≠ [] → topped l = true → BB ^ (l.length - 1) ≤ val l
 | [], h, _ => absurd rfl h
 | [d], _, h => by
   simp [topped] at h
   simp [val]; omega
 | d :: e :: r, _, h => by
   have := val_ge (l := e :: r) (by simp) h; rw [val]; simp only [List.length_cons, Nat.add_sub_cancel] at this ⊢; have h2 : BB * BB ^ r.length ≤ BB * val (e :: r) := Nat.mul_le_mul_left _ this; rw [Nat.pow_succ, Nat.mul_comm]; omega
def trimM (l : List Nat) : List Nat := dig (val l)
theorem good_snoc {l : List Nat} {d : Nat} (h : Good l) (hd : d < BB) : Good (l ++ [d]) := by
 intro x hx
 rcases List.mem_append.1 hx with hx | hx
 · exact h x hx
 · simp at hx; subst hx; exact hd
theorem trim_zero (l : List Nat) : trimM (l ++ [0]) = trimM l := by unfold trimM; rw [val_append]; simp [val]
theorem topped_snoc {d : Nat} (hd : d ≠ 0) : ∀ (l : List Nat), topped (l ++ [d]) = true
 | [] => by simp [topped, hd]
 | [a] => by simp [topped, hd]
 | a :: b :: r => by
   have := topped_snoc hd (b :: r)
   simpa [topped] using this
theorem trim_snoc {l : List Nat} {d : Nat} (h : Good (l ++ [d])) (hd : d ≠ 0) : trimM (l ++ [d]) = l ++ [d] := dig_val _ h (topped_snoc hd l)
def valI : List Int → Int
 | [] => 0
 | x :: r => x + (BB : Int) * valI r
def carryM : List Int → Int → List Nat × Int
 | [], o => ([], o)
 | x :: r, o => (((x + o) % (BB : Int)).toNat :: (carryM r ((x + o) / (BB : Int))).1, (carryM r ((x + o) / (BB : Int))).2)
theorem BBi_pos : (0 : Int) < (BB : Int) := by decide
theorem carry_good : ∀ (l : List Int) (o : Int), Good (carryM l o).1 ∧ (carryM l o).1.length = l.length
 | [], o => ⟨good_nil, rfl⟩
 | x :: r, o => by
   obtain ⟨h1, h2⟩ := carry_good r ((x + o) / (BB : Int)); refine ⟨good_cons ?_ h1, by simp [carryM, h2]⟩; have a := Int.emod_nonneg (x + o) (show (BB : Int) ≠ 0 by decide); have b := Int.emod_lt_of_pos (x + o) BBi_pos; omega
theorem carry_val : ∀ (l : List Int) (o : Int), valI l + o = (val (carryM l o).1 : Int) + (BB : Int) ^ l.length * (carryM l o).2
 | [], o => by simp [valI, carryM, val]
 | x :: r, o => by
   have ih := carry_val r ((x + o) / (BB : Int)); have a := Int.emod_nonneg (x + o) (show (BB : Int) ≠ 0 by decide); have e := Int.emod_add_mul_ediv (x + o) (BB : Int); simp only [carryM, val, valI, List.length_cons]; rw [Int.natCast_add, Int.natCast_mul, Int.toNat_of_nonneg a, Int.pow_succ]; generalize (x + o) / (BB : Int) = q at *; generalize (x + o) % (BB : Int) = m at *; generalize hv : (val (carryM r q).1 : Int) = v at *; generalize (carryM r q).2 = o' at *; generalize (BB : Int) ^ r.length = pw at *; generalize (BB : Int) = b at *
   have : b * (valI r + q) = b * (v + pw * o') := by rw [ih]
   have e1 : b * (valI r + q) = b * valI r + b * q := Int.mul_add ..
   have e2 : b * (v + pw * o') = b * v + pw * b * o' := by rw [Int.mul_add, ← Int.mul_assoc, Int.mul_comm b pw]
   omega
theorem carry_exact {l : List Int} {n : Nat} (h : valI l = (n : Int)) (hn : n < BB ^ l.length) : val (carryM l 0).1 = n ∧ (carryM l 0).2 = 0 := by
 obtain ⟨hg, hl⟩ := carry_good l 0
 have hv := carry_val l 0
 have hlt := val_lt _ hg
 rw [hl] at hlt
 rw [h, Int.add_zero] at hv
 have hp : ((BB ^ l.length : Nat) : Int) = (BB : Int) ^ l.length := Int.natCast_pow ..
 rw [← hp] at hv
 generalize BB ^ l.length = pw at *
 generalize val (carryM l 0).1 = v at *
 generalize (carryM l 0).2 = o at *
 have ho : o = 0 := by
  rcases Int.lt_trichotomy o 0 with g | g | g
  · have : (pw : Int) * o ≤ (pw : Int) * (-1) := Int.mul_le_mul_of_nonneg_left (by omega) (by omega)
    omega
  · exact g
  · have : (pw : Int) * 1 ≤ (pw : Int) * o := Int.mul_le_mul_of_nonneg_left (by omega) (by omega)
    omega
 subst ho
 exact ⟨by omega, rfl⟩
end
section
theorem val_take_drop (l : List Nat) (k : Nat) (hk : k ≤ l.length) : val l = val (l.take k) + BB ^ k * val (l.drop k) := by
 have := val_append (l.take k) (l.drop k)
 rwa [List.take_append_drop, List.length_take, Nat.min_eq_left hk] at this
theorem good_take {l : List Nat} (h : Good l) (k : Nat) : Good (l.take k) := fun d hd => h d (List.mem_of_mem_take hd)
theorem good_drop {l : List Nat} (h : Good l) (k : Nat) : Good (l.drop k) := fun d hd => h d (List.mem_of_mem_drop hd)
theorem val_lt_at {a b : List Nat} (ha : Good a) (hl : a.length = b.length) {k x y : Nat} (hx : a[k]? = some x) (hy : b[k]? = some y) (he : a.drop (k + 1) = b.drop (k + 1)) (hxy : x < y) : val a < val b := by
 have ka : k < a.length := (List.getElem?_eq_some_iff.1 hx).1
 have kb : k < b.length := (List.getElem?_eq_some_iff.1 hy).1
 rw [val_take_drop a k (by omega), val_take_drop b k (by omega)]
 have da : a.drop k = x :: a.drop (k + 1) := by rw [List.drop_eq_getElem_cons ka]; congr 1; exact (List.getElem?_eq_some_iff.1 hx).2
 have db : b.drop k = y :: b.drop (k + 1) := by rw [List.drop_eq_getElem_cons kb]; congr 1; exact (List.getElem?_eq_some_iff.1 hy).2
 rw [da, db, he, val, val]
 have h1 := val_lt _ (good_take ha k)
 rw [List.length_take, Nat.min_eq_left (by omega)] at h1
 generalize BB * val (b.drop (k + 1)) = t
 have h2 : BB ^ k * (x + t + 1) ≤ BB ^ k * (y + t) := Nat.mul_le_mul_left _ (by omega)
 rw [Nat.mul_add, Nat.mul_one] at h2
 omega
theorem val_lt_len {a b : List Nat} (ha : Good a) (hb : topped b = true) (hl : a.length < b.length) : val a < val b := by
 have h1 := val_lt a ha
 have h2 := val_ge (l := b) (by intro e; rw [e] at hl; simp at hl) hb
 have h3 : BB ^ a.length ≤ BB ^ (b.length - 1) := Nat.pow_le_pow_right BB_pos (by omega)
 omega
def digAt (l : List Nat) (i : Nat) : Nat := l.getD i 0
theorem valI_append (a b : List Int) : valI (a ++ b) = valI a + (BB : Int) ^ a.length * valI b := by
 induction a with
 | nil => simp [valI]
 | cons d r ih =>
   rw [List.cons_append, valI, ih, valI, List.length_cons, Int.pow_succ, Int.mul_add, ← Int.mul_assoc, Int.mul_comm (BB : Int) ((BB : Int) ^ r.length), Int.add_assoc]
def valF (f : Nat → Int) (n : Nat) : Int := valI ((List.range n).map f)
theorem valF_succ (f : Nat → Int) (n : Nat) : valF f (n + 1) = valF f n + (BB : Int) ^ n * f n := by
 unfold valF
 rw [List.range_succ, List.map_append, valI_append]
 simp [valI]
theorem valF_add (f g : Nat → Int) (n : Nat) : valF (fun i => f i + g i) n = valF f n + valF g n := by
 induction n with
 | zero => rfl
 | succ n ih => rw [valF_succ, valF_succ, valF_succ, ih, Int.mul_add]; omega
theorem valF_sub (f g : Nat → Int) (n : Nat) : valF (fun i => f i - g i) n = valF f n - valF g n := by
 induction n with
 | zero => rfl
 | succ n ih => rw [valF_succ, valF_succ, valF_succ, ih, Int.mul_sub]; omega
theorem valF_mul (f : Nat → Int) (x : Int) (n : Nat) : valF (fun i => f i * x) n = valF f n * x := by
 induction n with
 | zero => simp [valF, valI]
 | succ n ih => rw [valF_succ, valF_succ, ih, Int.add_mul, ← Int.mul_assoc]
theorem valF_dig (l : List Nat) {n : Nat} (hn : l.length ≤ n) : valF (fun i => (digAt l i : Int)) n = (val l : Int) := by
 have key : ∀ k, valF (fun i => (digAt l i : Int)) k = (val (l.take k) : Int) := by
  intro k
  induction k with
  | zero => rfl
  | succ k ih =>
    rw [valF_succ, ih]
    by_cases h : k < l.length
    · rw [List.take_succ_eq_append_getElem h, val_append, List.length_take, Nat.min_eq_left (by omega)]
      simp [val, digAt, List.getD, List.getElem?_eq_getElem h, Int.natCast_add, Int.natCast_mul, Int.natCast_pow]
    · rw [List.take_of_length_le (by omega), List.take_of_length_le (by omega)]
      simp [digAt, List.getD, List.getElem?_eq_none (show l.length ≤ k by omega)]
 rw [key, List.take_of_length_le hn]
theorem add_digits {a b : List Nat} (ha : Good a) (hb : Good b) : trimM (carryM ((List.range (max a.length b.length + 1)).map fun i => (digAt a i : Int) + (digAt b i : Int)) 0).1 = dig (val a + val b) := by
 have h1 : valI ((List.range (max a.length b.length + 1)).map fun i => (digAt a i : Int) + (digAt b i : Int)) = ((val a + val b : Nat) : Int) := by
  have := valF_add (fun i => (digAt a i : Int)) (fun i => (digAt b i : Int)) (max a.length b.length + 1); rw [valF_dig a (by omega), valF_dig b (by omega)] at this; rw [Int.natCast_add]; exact this
 have la := val_lt a ha
 have lb := val_lt b hb
 have pa : BB ^ a.length ≤ BB ^ (max a.length b.length) := Nat.pow_le_pow_right BB_pos (by omega)
 have pb : BB ^ b.length ≤ BB ^ (max a.length b.length) := Nat.pow_le_pow_right BB_pos (by omega)
 have p2 : BB ^ (max a.length b.length) * 2 ≤ BB ^ (max a.length b.length) * BB := Nat.mul_le_mul_left _ BB_two
 obtain ⟨h2, -⟩ := carry_exact h1 (by rw [List.length_map, List.length_range, Nat.pow_succ]; omega)
 unfold trimM
 rw [h2]
theorem sub_digits {a b : List Nat} (ha : Good a) (hba : val b ≤ val a) (hl : b.length ≤ a.length) : trimM (carryM ((List.range a.length).map fun i => (digAt a i : Int) - (digAt b i : Int)) 0).1 = dig (val a - val b) := by
 have h1 : valI ((List.range a.length).map fun i => (digAt a i : Int) - (digAt b i : Int)) = ((val a - val b : Nat) : Int) := by
  have := valF_sub (fun i => (digAt a i : Int)) (fun i => (digAt b i : Int)) a.length; rw [valF_dig a (Nat.le_refl _), valF_dig b hl] at this; rw [Int.natCast_sub hba]; exact this
 have la := val_lt a ha
 obtain ⟨h2, -⟩ := carry_exact h1 (by rw [List.length_map, List.length_range]; omega)
 unfold trimM
 rw [h2]
theorem scale_digits {a : List Nat} (ha : Good a) {x : Nat} (hx : x ≤ BB) : trimM (carryM ((List.range (a.length + 1)).map fun i => (digAt a i : Int) * (x : Int)) 0).1 = dig (val a * x) := by
 have h1 : valI ((List.range (a.length + 1)).map fun i => (digAt a i : Int) * (x : Int)) = ((val a * x : Nat) : Int) := by
  have := valF_mul (fun i => (digAt a i : Int)) (x : Int) (a.length + 1); rw [valF_dig a (by omega)] at this; rw [Int.natCast_mul]; exact this
 have la := val_lt a ha
 have l2 : val a * x ≤ val a * BB := Nat.mul_le_mul_left _ hx
 have l3 : val a * BB < BB ^ a.length * BB := Nat.mul_lt_mul_of_pos_right la BB_pos
 obtain ⟨h2, -⟩ := carry_exact h1 (by rw [List.length_map, List.length_range, Nat.pow_succ]; omega)
 unfold trimM
 rw [h2]
def rowM (x : Nat) : List Nat → List Nat → Nat → List Nat × Nat
 | m :: ms, y :: ys, o => ((m + x * y + o) % BB :: (rowM x ms ys ((m + x * y + o) / BB)).1, (rowM x ms ys ((m + x * y + o) / BB)).2)
 | _, _, o => ([], o)
theorem short_step {v q d r x : Nat} (hd : 0 < d) (h : v = q * d + r) (hr : r < d) :
 x + BB * v = ((r * BB + x) / d + BB * q) * d + (r * BB + x) % d ∧ (r * BB + x) % d < d ∧ (x < BB → (r * BB + x) / d < BB) := by
 have e := Nat.mod_add_div (r * BB + x) d
 refine ⟨?_, Nat.mod_lt _ hd, fun hx => ?_⟩
 · generalize (r * BB + x) / d = a at *
   generalize (r * BB + x) % d = b at *; subst h
   have e1 : BB * (q * d + r) = BB * q * d + r * BB := by rw [Nat.mul_add, ← Nat.mul_assoc, Nat.mul_comm BB r]
   have e2 : (a + BB * q) * d = d * a + BB * q * d := by rw [Nat.add_mul, Nat.mul_comm a d]
   omega
 · refine (Nat.div_lt_iff_lt_mul hd).2 ?_
   have h1 : (r + 1) * BB ≤ d * BB := Nat.mul_le_mul_right _ hr; rw [Nat.add_mul, Nat.one_mul] at h1; rw [Nat.mul_comm BB d]; omega
end
section
theorem guess_down {W V g D T P : Nat} (hV : D * P ≤ V) (hT : W < (T + 1) * P) (h : T < g * D) : W < g * V := by
 have h1 : (T + 1) * P ≤ g * D * P := Nat.mul_le_mul_right _ h
 have h2 : g * (D * P) ≤ g * V := Nat.mul_le_mul_left _ hV
 rw [← Nat.mul_assoc] at h2
 omega
theorem guess_near {W V g D T P : Nat} (hV : V < (D + 1) * P) (hT : T * P ≤ W) (h : g * D ≤ T) (hg : g ≤ D + 1) : g * V ≤ W + V := by
 rcases Nat.lt_or_ge (W + V) (g * V) with c | c
 · exfalso
   have hg1 : 1 ≤ g := by
    rcases Nat.eq_zero_or_pos g with e | e
    · subst e; simp at c
    · exact e
   obtain ⟨f, rfl⟩ : ∃ f, g = f + 1 := ⟨g - 1, by omega⟩
   have c1 : W < f * V := by rw [Nat.add_mul, Nat.one_mul] at c; omega
   have c2 : f * V ≤ f * ((D + 1) * P) := Nat.mul_le_mul_left _ (Nat.le_of_lt hV); rw [← Nat.mul_assoc] at c2
   have c3 : T * P < f * (D + 1) * P := by omega
   have c4 : T < f * (D + 1) := Nat.lt_of_mul_lt_mul_right c3; rw [Nat.add_mul, Nat.one_mul] at h; rw [Nat.mul_add, Nat.mul_one] at c4; omega
 · exact c
theorem guess_first {W V head v1 P q : Nat} (hq : q * V ≤ W) (hV : v1 * P ≤ V) (hW : W < (head + 1) * P) (hv : 0 < v1) : q ≤ head / v1 := by
 rw [Nat.le_div_iff_mul_le hv]
 have h1 : q * (v1 * P) ≤ q * V := Nat.mul_le_mul_left _ hV
 rw [← Nat.mul_assoc] at h1
 have h2 : q * v1 * P < (head + 1) * P := by omega
 have := Nat.lt_of_mul_lt_mul_right h2
 omega
theorem quo_lt {W V R x : Nat} (hW : W = x + BB * R) (hR : R < V) (hx : x < BB) : W < BB * V := by
 have : BB * (R + 1) ≤ BB * V := Nat.mul_le_mul_left _ hR
 rw [Nat.mul_add, Nat.mul_one] at this
 omega
theorem top_bounds {l : List Nat} (h : Good l) {k : Nat} (hk : k ≤ l.length) : val (l.drop k) * BB ^ k ≤ val l ∧ val l < (val (l.drop k) + 1) * BB ^ k := by
 have e := val_take_drop l k hk
 have h1 := val_lt _ (good_take h k)
 rw [List.length_take, Nat.min_eq_left hk] at h1
 rw [Nat.mul_comm (val (l.drop k)), Nat.add_mul, Nat.one_mul, Nat.mul_comm (val (l.drop k))]
 omega
theorem take_away {ws vs : List Nat} (g : Nat) (hl : ws.length = vs.length) :
 (val (carryM ((List.range vs.length).map fun j => (digAt ws j : Int) - (g : Int) * (digAt vs j : Int)) 0).1 : Int) + (BB : Int) ^ vs.length * (carryM ((List.range vs.length).map fun j => (digAt ws j : Int) - (g : Int) * (digAt vs j : Int)) 0).2 = (val ws : Int) - (g : Int) * (val vs : Int) := by
 have h1 := carry_val ((List.range vs.length).map fun j => (digAt ws j : Int) - (g : Int) * (digAt vs j : Int)) 0
 have h2 : valI ((List.range vs.length).map fun j => (digAt ws j : Int) - (g : Int) * (digAt vs j : Int)) = (val ws : Int) - (val vs : Int) * (g : Int) := by
  have a1 := valF_sub (fun i => (digAt ws i : Int)) (fun i => (digAt vs i : Int) * (g : Int)) vs.length; rw [valF_dig ws (by omega), valF_mul, valF_dig vs (Nat.le_refl _)] at a1; rw [← a1]; unfold valF
  congr 2
  funext j
  rw [Int.mul_comm (g : Int)]
 rw [h2, Int.add_zero, List.length_map, List.length_range] at h1
 rw [Int.mul_comm (g : Int) (val vs : Int)]
 exact h1.symm
theorem add_back {ws vs : List Nat} (hl : ws.length = vs.length) :
 (val (carryM ((List.range vs.length).map fun j => (digAt ws j : Int) + (digAt vs j : Int)) 0).1 : Int) + (BB : Int) ^ vs.length * (carryM ((List.range vs.length).map fun j => (digAt ws j : Int) + (digAt vs j : Int)) 0).2 = (val ws : Int) + (val vs : Int) := by
 have h1 := carry_val ((List.range vs.length).map fun j => (digAt ws j : Int) + (digAt vs j : Int)) 0
 have h2 : valI ((List.range vs.length).map fun j => (digAt ws j : Int) + (digAt vs j : Int)) = (val ws : Int) + (val vs : Int) := by
  have a1 := valF_add (fun i => (digAt ws i : Int)) (fun i => (digAt vs i : Int)) vs.length; rw [valF_dig ws (by omega), valF_dig vs (Nat.le_refl _)] at a1; rw [← a1]; rfl
 rw [h2, Int.add_zero, List.length_map, List.length_range] at h1
 exact h1.symm
theorem left_over {x n p : Nat} {t : Int} (hx : x < p) (hn : n < p) (h : (x : Int) + (p : Int) * t = (n : Int)) : t = 0 ∧ x = n := by
 have ht : t = 0 := by
  rcases Int.lt_trichotomy t 0 with g | g | g
  · have : (p : Int) * t ≤ (p : Int) * (-1) := Int.mul_le_mul_of_nonneg_left (by omega) (by omega)
    omega
  · exact g
  · have : (p : Int) * 1 ≤ (p : Int) * t := Int.mul_le_mul_of_nonneg_left (by omega) (by omega)
    omega
 subst ht
 exact ⟨rfl, by omega⟩
theorem quo_of {W V q r : Nat} (h : W = q * V + r) (hr : r < V) : q = W / V ∧ r = W % V := by
 have h2 : r + V * q = W := by rw [Nat.mul_comm V q]; omega
 exact (Nat.div_mod_unique (by omega)).2 ⟨h2, hr⟩ |> fun ⟨a, b⟩ => ⟨a.symm, b.symm⟩
end
end Go.Proofs.YtboapndkopabiaaGreat
