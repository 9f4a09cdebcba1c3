/- Plain lemmas on worlds: what stays where only some blocks may turn, rows of cells, and how Go data are read out of memory. No statement is proved here. -/
import Derived.Test.YthbbefkmnahnlaaRows
import Derived.WalkKit
import Derived.WalkSpells
import Derived.WalkLawsBesides
import Derived.BigQuiet
import Derived.Deep.QuietTactic
import Derived.Deep.Draws
import Derived.Lib.Hide
namespace Go.Proofs.Ythbbefkmnahnlaa
open Go.RowKit

/-- All but the blocks of M stays as it was. -/
structure Keeps (M : List Nat) (w w' : World) : Prop where
  size : w.heap.size ≤ w'.heap.size
  block : ∀ k, k < w.heap.size → k ∉ M → w'.heap[k]? = w.heap[k]?

section
variable {M M' : List Nat} {w w' w'' : World}
theorem Keeps.refl (M : List Nat) (w : World) : Keeps M w w := ⟨Nat.le_refl _, fun _ _ _ => rfl⟩
theorem Keeps.trans (h : Keeps M w w') (h' : Keeps M w' w'') : Keeps M w w'' :=
  ⟨Nat.le_trans h.size h'.size, fun k hk hm => (h'.block k (Nat.lt_of_lt_of_le hk h.size) hm).trans (h.block k hk hm)⟩
theorem Keeps.mono (h : Keeps M w w') (hs : ∀ x, x ∈ M → x ∈ M') : Keeps M' w w' := ⟨h.size, fun k hk hm => h.block k hk (fun e => hm (hs _ e))⟩
theorem Keeps.of_below (h : Below w.heap.size w w') (M : List Nat) : Keeps M w w' := ⟨h.size, fun k hk _ => h.block k hk⟩
theorem Keeps.of_below_le {B : Nat} (h : Below B w w') (M : List Nat) (hm : ∀ k, B ≤ k → k < w.heap.size → k ∈ M) : Keeps M w w' :=
  ⟨h.size, fun k hk hn => h.block k (by
    rcases Nat.lt_or_ge k B with g | g
    · exact g
    · exact absurd (hm k g hk) hn)⟩
theorem Keeps.drew (h : Keeps M w w') : Keeps M w w'.drew := ⟨h.size, h.block⟩
theorem Keeps.drewN (h : Keeps M w w') (n : Nat) : Keeps M w (w'.drewN n) := ⟨h.size, h.block⟩
theorem Keeps.drewL (h : Keeps M w w') : Keeps M w.drew w' := ⟨h.size, h.block⟩
theorem Keeps.alloc (h : Keeps M w w') (o : Obj) : Keeps M w (w'.alloc o) :=
  ⟨Nat.le_trans h.size (by simp), fun k hk hm => (Below.heap_alloc w' o k (Nat.lt_of_lt_of_le hk h.size)).trans (h.block k hk hm)⟩
theorem Keeps.setCell (h : Keeps M w w') {p : Addr} (hp : p.block ∈ M ∨ w.heap.size ≤ p.block) (u : Value) : Keeps M w (w'.setCell p u) :=
  ⟨Nat.le_trans h.size (by simp), fun k hk hm => (Below.heap_setCell w' p u k (by
    rintro rfl
    rcases hp with hp | hp
    · exact hm hp
    · omega)).trans (h.block k hk hm)⟩
theorem Keeps.grown {row : Option Nat} (h : Keeps M w w') (hg : w'.grownBy w'' row) (hr : ∀ k, row = some k → k ∈ M ∨ w.heap.size ≤ k) : Keeps M w w'' :=
  ⟨Nat.le_trans h.size hg.size, fun k hk hm => (hg.block k (Nat.lt_of_lt_of_le hk h.size) (fun e => by
    rcases hr k e.symm with g | g
    · exact hm g
    · omega)).trans (h.block k hk hm)⟩
theorem Keeps.cell (h : Keeps M w w') {b o : Nat} (hm : b ∉ M) {u : Value} (hc : w.cell? ⟨b, o, none⟩ = some u) : w'.cell? ⟨b, o, none⟩ = some u := by
  rw [World.cell?_of_block (w := w) (h.block b (World.block_lt_of_cell? w (a := ⟨b, o, none⟩) hc) hm)]; exact hc
end

/-- The cells cs lie at block b from o on; b is not one of the blocks M that may turn. -/
def RowC (w : World) (M : List Nat) (b o : Nat) (cs : List Value) : Prop := b ∉ M ∧ ∀ j u, cs[j]? = some u → w.cell? ⟨b, o + j, none⟩ = some u

section
variable {M M' : List Nat} {w w' : World} {b o : Nat} {cs : List Value}
theorem RowC.keep (h : RowC w M b o cs) (k : Keeps M w w') : RowC w' M b o cs := ⟨h.1, fun j u hu => k.cell h.1 (h.2 j u hu)⟩
theorem RowC.less (h : RowC w M b o cs) (hs : ∀ x, x ∈ M' → x ∈ M) : RowC w M' b o cs := ⟨fun e => h.1 (hs _ e), h.2⟩
theorem RowC.c0 (h : RowC w M b o cs) {u : Value} (hu : cs[0]? = some u) : w.cell? ⟨b, o, none⟩ = some u := by simpa using h.2 0 u hu
end

/-- How data of a type lie in memory, as a list of cells. -/
class Rep (α : Type) where
  sz : Nat
  rd : World → List Nat → α → List Value → Prop
  len : ∀ {w M x cs}, rd w M x cs → cs.length = sz
  keep : ∀ {w w' M x cs}, rd w M x cs → Keeps M w w' → rd w' M x cs
  less : ∀ {w M M' x cs}, rd w M x cs → (∀ k, k ∈ M' → k ∈ M) → rd w M' x cs
  more : ∀ {w M x cs b}, rd w M x cs → w.heap.size ≤ b → rd w (b :: M) x cs

def i64 (n : Int) : Prop := -9223372036854775808 ≤ n ∧ n ≤ 9223372036854775807

instance : Rep Int where
  sz := 1
  rd _ _ n cs := cs = [.int .i64 n] ∧ i64 n
  len h := by rw [h.1]; rfl
  keep h _ := h
  less h _ := h
  more h _ := h

instance : Rep Bool where
  sz := 1
  rd _ _ n cs := cs = [.bool n]
  len h := by rw [h]; rfl
  keep h _ := h
  less h _ := h
  more h _ := h

def capOk (c : Nat) : Prop := c ≤ 9223372036854775807

/-- A slice at A of n elements reads as xs. -/
structure Sl (α : Type) [Rep α] (w : World) (M : List Nat) (A : Option Addr) (n c : Nat) (xs : List α) : Prop where
  len : xs.length = n
  cap : n ≤ c
  room : capOk c
  small : n ≤ 140737488355328
  at_ : xs = [] ∨ ∃ b o, A = some ⟨b, o, none⟩ ∧ ∀ k x, xs[k]? = some x → ∃ es, Rep.rd w M x es ∧ RowC w M b (o + k * Rep.sz α) es

section
variable {α : Type} [Rep α] {M M' : List Nat} {w w' : World} {A : Option Addr} {n c : Nat} {xs : List α}
theorem Sl.keep (h : Sl α w M A n c xs) (k : Keeps M w w') : Sl α w' M A n c xs := by
  refine ⟨h.len, h.cap, h.room, h.small, ?_⟩
  rcases h.at_ with g | ⟨b, o, rfl, g⟩
  · exact .inl g
  · exact .inr ⟨b, o, rfl, fun j x hx => by obtain ⟨es, h1, h2⟩ := g j x hx; exact ⟨es, Rep.keep h1 k, h2.keep k⟩⟩
theorem Sl.less (h : Sl α w M A n c xs) (hs : ∀ k, k ∈ M' → k ∈ M) : Sl α w M' A n c xs := by
  refine ⟨h.len, h.cap, h.room, h.small, ?_⟩
  rcases h.at_ with g | ⟨b, o, rfl, g⟩
  · exact .inl g
  · exact .inr ⟨b, o, rfl, fun j x hx => by obtain ⟨es, h1, h2⟩ := g j x hx; exact ⟨es, Rep.less h1 hs, h2.less hs⟩⟩
end

/-- A type none of whose values takes no cell at all. -/
class Rep1 (α : Type) extends Rep α where
  pos : 0 < sz

instance : Rep1 Int := ⟨by decide⟩

theorem Sl.more {α : Type} [Rep1 α] {M : List Nat} {w : World} {A : Option Addr} {n c b : Nat} {xs : List α} (h : Sl α w M A n c xs) (hb : w.heap.size ≤ b) : Sl α w (b :: M) A n c xs := by
  refine ⟨h.len, h.cap, h.room, h.small, ?_⟩
  rcases h.at_ with g | ⟨b', o, rfl, g⟩
  · exact .inl g
  · refine .inr ⟨b', o, rfl, fun j x hx => ?_⟩
    obtain ⟨es, h1, h2⟩ := g j x hx
    refine ⟨es, Rep.more h1 hb, ?_, h2.2⟩
    have hl := Rep.len h1
    have hp : 0 < es.length := by rw [hl]; exact Rep1.pos
    have hlt : b' < w.heap.size := World.block_lt_of_cell? w _ (h2.2 0 _ (List.getElem?_eq_getElem hp))
    intro e
    rcases List.mem_cons.1 e with e | e
    · omega
    · exact h2.1 e

instance {α : Type} [Rep1 α] : Rep (List α) where
  sz := 1
  rd w M xs cs := ∃ A n c, cs = [.slice A n c] ∧ Sl α w M A n c xs
  len := by rintro w M x cs ⟨A, n, c, rfl, _⟩; rfl
  keep := by rintro w w' M x cs ⟨A, n, c, rfl, h⟩ k; exact ⟨A, n, c, rfl, h.keep k⟩
  less := by rintro w M M' x cs ⟨A, n, c, rfl, h⟩ k; exact ⟨A, n, c, rfl, h.less k⟩
  more := by rintro w M x cs b ⟨A, n, c, rfl, h⟩ k; exact ⟨A, n, c, rfl, h.more k⟩

instance {α : Type} [Rep1 α] : Rep1 (List α) := ⟨Nat.lt_succ_self 0⟩

/-- Element k of a slice, its cells. -/
theorem Sl.get {α : Type} [Rep α] {M : List Nat} {w : World} {A : Option Addr} {n c : Nat} {xs : List α} (h : Sl α w M A n c xs) {k : Nat} {x : α} (hk : xs[k]? = some x) :
    ∃ b o es, A = some ⟨b, o, none⟩ ∧ Rep.rd w M x es ∧ RowC w M b (o + k * Rep.sz α) es := by
  rcases h.at_ with g | ⟨b, o, rfl, g⟩
  · rw [g] at hk; simp at hk
  · obtain ⟨es, h1, h2⟩ := g k x hk; exact ⟨b, o, es, rfl, h1, h2⟩

/-- Element k of a slice of ints. -/
theorem Sl.int {M : List Nat} {w : World} {A : Option Addr} {n c : Nat} {xs : List Int} (h : Sl Int w M A n c xs) {k : Nat} (hk : k < xs.length) :
    ∃ b o, A = some ⟨b, o, none⟩ ∧ w.cell? ⟨b, o + k, none⟩ = some (.int .i64 xs[k]) := by
  obtain ⟨b, o, es, rfl, ⟨rfl, _⟩, h2⟩ := h.get (List.getElem?_eq_getElem hk)
  exact ⟨b, o, rfl, by have := h2.c0 rfl; rwa [show Rep.sz Int = 1 from rfl, Nat.mul_one] at this⟩

/-- Element k of a slice of ints, and what is left of the list. -/
theorem Sl.intd {M : List Nat} {w : World} {A : Option Addr} {n c : Nat} {xs : List Int} (h : Sl Int w M A n c xs) {k : Nat} (hk : k < n) :
    ∃ b o x, A = some ⟨b, o, none⟩ ∧ w.cell? ⟨b, o + k, none⟩ = some (.int .i64 x) ∧ i64 x ∧ xs.drop k = x :: xs.drop (k + 1) ∧ xs[k]? = some x := by
  have hl : k < xs.length := by rw [h.len]; exact hk
  obtain ⟨b, o, es, rfl, ⟨rfl, h1⟩, h2⟩ := h.get (List.getElem?_eq_getElem hl)
  exact ⟨b, o, _, rfl, by have := h2.c0 rfl; rwa [show Rep.sz Int = 1 from rfl, Nat.mul_one] at this, h1, List.drop_eq_getElem_cons hl, List.getElem?_eq_getElem hl⟩

theorem Sl.rng {M : List Nat} {w : World} {A : Option Addr} {n c : Nat} {xs : List Int} (h : Sl Int w M A n c xs) {k : Nat} (hk : k < xs.length) : i64 xs[k] := by
  obtain ⟨b, o, es, rfl, ⟨rfl, h1⟩, h2⟩ := h.get (List.getElem?_eq_getElem hk)
  exact h1

/-- What a call has appended to itself, read as a slice of ints. -/
theorem Sl.of_own {w : World} {base : Nat} {e : TypeId} {v : Value} {n : Nat} {xs : List Int} {M : List Nat} (h : w.ownsRow base e 1 v n (xs.map (Value.int .i64))) (hx : ∀ x, x ∈ xs → i64 x) (hn : n ≤ 140737488355328)
    (hM : ∀ k, k ∈ M → k < base) : ∃ A c, v = .slice A n c ∧ Sl Int w M A n c xs := by
  have hl : xs.length = n := by have := h.1; simpa using this
  rcases h.2 with ⟨rfl, h0⟩ | ⟨g, cap, cur, rfl, hg, hh, hnc, hcm, hcs, htake⟩
  · subst h0
    have : xs = [] := List.eq_nil_of_length_eq_zero hl
    subst this
    exact ⟨none, 0, rfl, ⟨rfl, Nat.le_refl _, by simp [capOk], by omega, .inl rfl⟩⟩
  · refine ⟨_, _, rfl, ⟨hl, hnc, hcm, hn, .inr ⟨g, 0, rfl, fun k x hk => ⟨[.int .i64 x], ⟨rfl, hx _ (List.mem_of_getElem? hk)⟩, fun hm => ?_, fun j u hu => ?_⟩⟩⟩⟩
    · have := hM g hm; omega
    · match j, hu with
      | 0, hu =>
        cases hu
        have hc := h.cells (g := g) rfl k (.int .i64 x) (by rw [List.getElem?_map, hk]; rfl)
        have e : ((⟨g, 0, none⟩ : Addr).add k) = ⟨g, 0 + k * Rep.sz Int + 0, none⟩ := by
          show _ = (⟨g, 0 + k * 1 + 0, none⟩ : Addr)
          unfold Addr.add
          split
          · rename_i h0; subst h0; rfl
          · simp
        rw [e] at hc; exact hc

theorem _root_.Go.World.grownBy.trans' {a b c : World} {row : Option Nat} (h : a.grownBy b row) (k : b.grownBy c row) : a.grownBy c row :=
  ⟨k.os.trans h.os, k.tape.trans h.tape, k.output.trans h.output, Nat.le_trans h.size k.size, fun i hi hn => (k.block i (Nat.lt_of_lt_of_le hi h.size) hn).trans (h.block i hi hn)⟩

theorem cell_al {w : World} {a : Addr} {v : Value} (o : Obj) (h : w.cell? a = some v) : (w.alloc o).cell? a = some v := by
  have := World.block_lt_of_cell? w a h
  rw [World.cell?_of_block (w := w) (Below.heap_alloc w o a.block this)]; exact h
theorem free_al {w : World} {a : Addr} {v : Value} (o : Obj) (h : w.cell? a = some v) (hf : w.frozen? a = false) : (w.alloc o).frozen? a = false := by
  have := World.block_lt_of_cell? w a h
  rw [World.frozen?_of_block (w := w) (Below.heap_alloc w o a.block this)]; exact hf
theorem cell_same {w : World} {a : Addr} {v u : Value} (h : w.cell? a = some v) : (w.setCell a u).cell? a = some u := World.cell?_setCell_same (w := w) (a := a) (v := u) h

theorem ret_bool {a b : Bool} (h : a = b) : Ending.returned (.bool a) = Ending.returned (.bool b) := by rw [h]
theorem ret_int {k : IntKind} {a b : Int} (h : a = b) : Ending.returned (.int k a) = Ending.returned (.int k b) := by rw [h]
theorem ret2i {a b a' b' : Int} (h : (a, b) = (a', b')) : Ending.returned (.tuple #[.int .i64 a, .int .i64 b]) = Ending.returned (.tuple #[.int .i64 a', .int .i64 b']) := by injection h with h1 h2; rw [h1, h2]
theorem ret2bi {a a' : Bool} {b b' : Int} (h : (a, b) = (a', b')) : Ending.returned (.tuple #[.bool a, .int .i64 b]) = Ending.returned (.tuple #[.bool a', .int .i64 b']) := by injection h with h1 h2; rw [h1, h2]

end Go.Proofs.Ythbbefkmnahnlaa
