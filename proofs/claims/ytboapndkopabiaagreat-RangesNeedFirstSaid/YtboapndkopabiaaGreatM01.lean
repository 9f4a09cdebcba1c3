/- Lemmas and walks (Base Open Pair App Iter). No statement is proved here. -/
import Derived.Test.YtboapndkopabiaaGreatRows
import Derived.WalkKit
import Derived.WalkSpells
import Derived.WalkLawsBesides
import Derived.BigQuiet
import Derived.Deep.QuietTactic
import Derived.Deep.Draws
import Derived.Lib.Hide
import Derived.ProofKit
import Derived.Deep.Slices
import Derived.SizedLaws
import Derived.Lib.SmallJoins
import Derived.Maps.AppendAt
import Derived.RangeFuncBox
import Derived.RangeFuncNested
import Derived.RangeFuncBound
import Derived.RangeFuncCalls
import Derived.RangeFuncLeaves
import Derived.Shelf.Abstract
import Derived.Shelf.RegionOpen
import Derived.OwnWalkIn
import Derived.TacticsInMore
import Derived.LoopNIn
import Derived.LoopIn
set_option linter.unusedVariables false
set_option linter.unusedSimpArgs false
namespace Go.Proofs.YtboapndkopabiaaGreat
section
open Go.RowKit
structure Keeps (M : List Nat) (w w' : World) : Prop where
 size : w.heap.size ≤ w'.heap.size
 block : ∀ k, k < w.heap.size → k ∉ M → w'.heap[k]? = w.heap[k]?
section
variable {M M' : List Nat} {w w' w'' : World}
theorem Keeps.refl (M : List Nat) (w : World) : Keeps M w w := ⟨Nat.le_refl _, fun _ _ _ => rfl⟩
theorem Keeps.trans (h : Keeps M w w') (h' : Keeps M w' w'') : Keeps M w w'' :=
 ⟨Nat.le_trans h.size h'.size, fun k hk hm => (h'.block k (Nat.lt_of_lt_of_le hk h.size) hm).trans (h.block k hk hm)⟩
theorem Keeps.mono (h : Keeps M w w') (hs : ∀ x, x ∈ M → x ∈ M') : Keeps M' w w' := ⟨h.size, fun k hk hm => h.block k hk (fun e => hm (hs _ e))⟩
theorem Keeps.of_below (h : Below w.heap.size w w') (M : List Nat) : Keeps M w w' := ⟨h.size, fun k hk _ => h.block k hk⟩
theorem Keeps.of_below_le {B : Nat} (h : Below B w w') (M : List Nat) (hm : ∀ k, B ≤ k → k < w.heap.size → k ∈ M) : Keeps M w w' :=
 ⟨h.size, fun k hk hn => h.block k (by
  rcases Nat.lt_or_ge k B with g | g
  · exact g
  · exact absurd (hm k g hk) hn)⟩
theorem Keeps.drew (h : Keeps M w w') : Keeps M w w'.drew := ⟨h.size, h.block⟩
theorem Keeps.drewN (h : Keeps M w w') (n : Nat) : Keeps M w (w'.drewN n) := ⟨h.size, h.block⟩
theorem Keeps.drewL (h : Keeps M w w') : Keeps M w.drew w' := ⟨h.size, h.block⟩
theorem Keeps.alloc (h : Keeps M w w') (o : Obj) : Keeps M w (w'.alloc o) :=
 ⟨Nat.le_trans h.size (by simp), fun k hk hm => (Below.heap_alloc w' o k (Nat.lt_of_lt_of_le hk h.size)).trans (h.block k hk hm)⟩
theorem Keeps.setCell (h : Keeps M w w') {p : Addr} (hp : p.block ∈ M ∨ w.heap.size ≤ p.block) (u : Value) : Keeps M w (w'.setCell p u) :=
 ⟨Nat.le_trans h.size (by simp), fun k hk hm => (Below.heap_setCell w' p u k (by
  rintro rfl
  rcases hp with hp | hp
  · exact hm hp
  · omega)).trans (h.block k hk hm)⟩
theorem Keeps.grown {row : Option Nat} (h : Keeps M w w') (hg : w'.grownBy w'' row) (hr : ∀ k, row = some k → k ∈ M ∨ w.heap.size ≤ k) : Keeps M w w'' :=
 ⟨Nat.le_trans h.size hg.size, fun k hk hm => (hg.block k (Nat.lt_of_lt_of_le hk h.size) (fun e => by
  rcases hr k e.symm with g | g
  · exact hm g
  · omega)).trans (h.block k hk hm)⟩
theorem Keeps.cell (h : Keeps M w w') {b o : Nat} (hm : b ∉ M) {u : Value} (hc : w.cell? ⟨b, o, none⟩ = some u) : w'.cell? ⟨b, o, none⟩ = some u := by
 rw [World.cell?_of_block (w := w) (h.block b (World.block_lt_of_cell? w (a := ⟨b, o, none⟩) hc) hm)]; exact hc
end
def RowC (w : World) (M : List Nat) (b o : Nat) (cs : List Value) : Prop := b ∉ M ∧ ∀ j u, cs[j]? = some u → w.cell? ⟨b, o + j, none⟩ = some u
section
variable {M M' : List Nat} {w w' : World} {b o : Nat} {cs : List Value}
theorem RowC.keep (h : RowC w M b o cs) (k : Keeps M w w') : RowC w' M b o cs := ⟨h.1, fun j u hu => k.cell h.1 (h.2 j u hu)⟩
theorem RowC.less (h : RowC w M b o cs) (hs : ∀ x, x ∈ M' → x ∈ M) : RowC w M' b o cs := ⟨fun e => h.1 (hs _ e), h.2⟩
theorem RowC.c0 (h : RowC w M b o cs) {u : Value} (hu : cs[0]? = some u) : w.cell? ⟨b, o, none⟩ = some u := by simpa using h.2 0 u hu
end
class Rep (α : Type) where
 sz : Nat
 rd : World → List Nat → α → List Value → Prop
 len : ∀ {w M x cs}, rd w M x cs → cs.length = sz
 keep : ∀ {w w' M x cs}, rd w M x cs → Keeps M w w' → rd w' M x cs
 less : ∀ {w M M' x cs}, rd w M x cs → (∀ k, k ∈ M' → k ∈ M) → rd w M' x cs
 more : ∀ {w M x cs b}, rd w M x cs → w.heap.size ≤ b → rd w (b :: M) x cs
def i64 (n : Int) : Prop := -9223372036854775808 ≤ n ∧ n ≤ 9223372036854775807
instance : Rep Int where
 sz := 1
 rd _ _ n cs := cs = [.int .i64 n] ∧ i64 n
 len h := by rw [h.1]; rfl
 keep h _ := h
 less h _ := h
 more h _ := h
instance : Rep Bool where
 sz := 1
 rd _ _ n cs := cs = [.bool n]
 len h := by rw [h]; rfl
 keep h _ := h
 less h _ := h
 more h _ := h
def capOk (c : Nat) : Prop := c ≤ 9223372036854775807
structure Sl (α : Type) [Rep α] (w : World) (M : List Nat) (A : Option Addr) (n c : Nat) (xs : List α) : Prop where
 len : xs.length = n
 cap : n ≤ c
 room : capOk c
 small : n ≤ 140737488355328
 at_ : xs = [] ∨ ∃ b o, A = some ⟨b, o, none⟩ ∧ ∀ k x, xs[k]? = some x → ∃ es, Rep.rd w M x es ∧ RowC w M b (o + k * Rep.sz α) es
section
variable {α : Type} [Rep α] {M M' : List Nat} {w w' : World} {A : Option Addr} {n c : Nat} {xs : List α}
theorem Sl.keep (h : Sl α w M A n c xs) (k : Keeps M w w') : Sl α w' M A n c xs := by
 refine ⟨h.len, h.cap, h.room, h.small, ?_⟩
 rcases h.at_ with g | ⟨b, o, rfl, g⟩
 · exact .inl g
 · exact .inr ⟨b, o, rfl, fun j x hx => by obtain ⟨es, h1, h2⟩ := g j x hx; exact ⟨es, Rep.keep h1 k, h2.keep k⟩⟩
theorem Sl.less (h : Sl α w M A n c xs) (hs : ∀ k, k ∈ M' → k ∈ M) : Sl α w M' A n c xs := by
 refine ⟨h.len, h.cap, h.room, h.small, ?_⟩
 rcases h.at_ with g | ⟨b, o, rfl, g⟩
 · exact .inl g
 · exact .inr ⟨b, o, rfl, fun j x hx => by obtain ⟨es, h1, h2⟩ := g j x hx; exact ⟨es, Rep.less h1 hs, h2.less hs⟩⟩
end
class Rep1 (α : Type) extends Rep α where
 pos : 0 < sz
instance : Rep1 Int := ⟨by decide⟩
theorem Sl.more {α : Type} [Rep1 α] {M : List Nat} {w : World} {A : Option Addr} {n c b : Nat} {xs : List α} (h : Sl α w M A n c xs) (hb : w.heap.size ≤ b) : Sl α w (b :: M) A n c xs := by
 refine ⟨h.len, h.cap, h.room, h.small, ?_⟩
 rcases h.at_ with g | ⟨b', o, rfl, g⟩
 · exact .inl g
 · refine .inr ⟨b', o, rfl, fun j x hx => ?_⟩
   obtain ⟨es, h1, h2⟩ := g j x hx; refine ⟨es, Rep.more h1 hb, ?_, h2.2⟩; have hl := Rep.len h1
   have hp : 0 < es.length := by rw [hl]; exact Rep1.pos
   have hlt : b' < w.heap.size := World.block_lt_of_cell? w _ (h2.2 0 _ (List.getElem?_eq_getElem hp)); intro e
   rcases List.mem_cons.1 e with e | e
   · omega
   · exact h2.1 e
instance {α : Type} [Rep1 α] : Rep (List α) where
 sz := 1
 rd w M xs cs := ∃ A n c, cs = [.slice A n c] ∧ Sl α w M A n c xs
 len := by rintro w M x cs ⟨A, n, c, rfl, _⟩; rfl
 keep := by rintro w w' M x cs ⟨A, n, c, rfl, h⟩ k; exact ⟨A, n, c, rfl, h.keep k⟩
 less := by rintro w M M' x cs ⟨A, n, c, rfl, h⟩ k; exact ⟨A, n, c, rfl, h.less k⟩
 more := by rintro w M x cs b ⟨A, n, c, rfl, h⟩ k; exact ⟨A, n, c, rfl, h.more k⟩
instance {α : Type} [Rep1 α] : Rep1 (List α) := ⟨Nat.lt_succ_self 0⟩
theorem Sl.get {α : Type} [Rep α] {M : List Nat} {w : World} {A : Option Addr} {n c : Nat} {xs : List α} (h : Sl α w M A n c xs) {k : Nat} {x : α} (hk : xs[k]? = some x) :
 ∃ b o es, A = some ⟨b, o, none⟩ ∧ Rep.rd w M x es ∧ RowC w M b (o + k * Rep.sz α) es := by
 rcases h.at_ with g | ⟨b, o, rfl, g⟩
 · rw [g] at hk; simp at hk
 · obtain ⟨es, h1, h2⟩ := g k x hk; exact ⟨b, o, es, rfl, h1, h2⟩
theorem Sl.int {M : List Nat} {w : World} {A : Option Addr} {n c : Nat} {xs : List Int} (h : Sl Int w M A n c xs) {k : Nat} (hk : k < xs.length) :
 ∃ b o, A = some ⟨b, o, none⟩ ∧ w.cell? ⟨b, o + k, none⟩ = some (.int .i64 xs[k]) := by
 obtain ⟨b, o, es, rfl, ⟨rfl, _⟩, h2⟩ := h.get (List.getElem?_eq_getElem hk)
 exact ⟨b, o, rfl, by have := h2.c0 rfl; rwa [show Rep.sz Int = 1 from rfl, Nat.mul_one] at this⟩
theorem Sl.intd {M : List Nat} {w : World} {A : Option Addr} {n c : Nat} {xs : List Int} (h : Sl Int w M A n c xs) {k : Nat} (hk : k < n) :
 ∃ b o x, A = some ⟨b, o, none⟩ ∧ w.cell? ⟨b, o + k, none⟩ = some (.int .i64 x) ∧ i64 x ∧ xs.drop k = x :: xs.drop (k + 1) ∧ xs[k]? = some x := by
 have hl : k < xs.length := by rw [h.len]; exact hk
 obtain ⟨b, o, es, rfl, ⟨rfl, h1⟩, h2⟩ := h.get (List.getElem?_eq_getElem hl)
 exact ⟨b, o, _, rfl, by have := h2.c0 rfl; rwa [show Rep.sz Int = 1 from rfl, Nat.mul_one] at this, h1, List.drop_eq_getElem_cons hl, List.getElem?_eq_getElem hl⟩
theorem Sl.rng {M : List Nat} {w : World} {A : Option Addr} {n c : Nat} {xs : List Int} (h : Sl Int w M A n c xs) {k : Nat} (hk : k < xs.length) : i64 xs[k] := by
 obtain ⟨b, o, es, rfl, ⟨rfl, h1⟩, h2⟩ := h.get (List.getElem?_eq_getElem hk)
 exact h1
theorem Sl.of_own {w : World} {base : Nat} {e : TypeId} {v : Value} {n : Nat} {xs : List Int} {M : List Nat} (h : w.ownsRow base e 1 v n (xs.map (Value.int .i64))) (hx : ∀ x, x ∈ xs → i64 x) (hn : n ≤ 140737488355328)
 (hM : ∀ k, k ∈ M → k < base) : ∃ A c, v = .slice A n c ∧ Sl Int w M A n c xs := by
 have hl : xs.length = n := by have := h.1; simpa using this
 rcases h.2 with ⟨rfl, h0⟩ | ⟨g, cap, cur, rfl, hg, hh, hnc, hcm, hcs, htake⟩
 · subst h0
   have : xs = [] := List.eq_nil_of_length_eq_zero hl; subst this; exact ⟨none, 0, rfl, ⟨rfl, Nat.le_refl _, by simp [capOk], by omega, .inl rfl⟩⟩
 · refine ⟨_, _, rfl, ⟨hl, hnc, hcm, hn, .inr ⟨g, 0, rfl, fun k x hk => ⟨[.int .i64 x], ⟨rfl, hx _ (List.mem_of_getElem? hk)⟩, fun hm => ?_, fun j u hu => ?_⟩⟩⟩⟩
   · have := hM g hm; omega
   · match j, hu with
     | 0, hu =>
       cases hu; have hc := h.cells (g := g) rfl k (.int .i64 x) (by rw [List.getElem?_map, hk]; rfl)
       have e : ((⟨g, 0, none⟩ : Addr).add k) = ⟨g, 0 + k * Rep.sz Int + 0, none⟩ := by
        show _ = (⟨g, 0 + k * 1 + 0, none⟩ : Addr)
        unfold Addr.add
        split
        · rename_i h0; subst h0; rfl
        · simp
       rw [e] at hc; exact hc
theorem _root_.Go.World.grownBy.trans' {a b c : World} {row : Option Nat} (h : a.grownBy b row) (k : b.grownBy c row) : a.grownBy c row :=
 ⟨k.os.trans h.os, k.tape.trans h.tape, k.output.trans h.output, Nat.le_trans h.size k.size, fun i hi hn => (k.block i (Nat.lt_of_lt_of_le hi h.size) hn).trans (h.block i hi hn)⟩
theorem cell_al {w : World} {a : Addr} {v : Value} (o : Obj) (h : w.cell? a = some v) : (w.alloc o).cell? a = some v := by
 have := World.block_lt_of_cell? w a h
 rw [World.cell?_of_block (w := w) (Below.heap_alloc w o a.block this)]; exact h
theorem free_al {w : World} {a : Addr} {v : Value} (o : Obj) (h : w.cell? a = some v) (hf : w.frozen? a = false) : (w.alloc o).frozen? a = false := by
 have := World.block_lt_of_cell? w a h
 rw [World.frozen?_of_block (w := w) (Below.heap_alloc w o a.block this)]; exact hf
theorem cell_same {w : World} {a : Addr} {v u : Value} (h : w.cell? a = some v) : (w.setCell a u).cell? a = some u := World.cell?_setCell_same (w := w) (a := a) (v := u) h
theorem ret_bool {a b : Bool} (h : a = b) : Ending.returned (.bool a) = Ending.returned (.bool b) := by rw [h]
theorem ret_int {k : IntKind} {a b : Int} (h : a = b) : Ending.returned (.int k a) = Ending.returned (.int k b) := by rw [h]
theorem ret2i {a b a' b' : Int} (h : (a, b) = (a', b')) : Ending.returned (.tuple #[.int .i64 a, .int .i64 b]) = Ending.returned (.tuple #[.int .i64 a', .int .i64 b']) := by injection h with h1 h2; rw [h1, h2]
theorem ret2bi {a a' : Bool} {b b' : Int} (h : (a, b) = (a', b')) : Ending.returned (.tuple #[.bool a, .int .i64 b]) = Ending.returned (.tuple #[.bool a', .int .i64 b']) := by injection h with h1 h2; rw [h1, h2]
end
section
open Go.ChangeShapes Go.WideShapes Go.ChangeAt Go.RowKit Go.Deep Go.Joins
def Opens (α : Type) [Rep α] (P : Program) (t : TypeId) : Prop :=
 ∀ (H : Type) (enc : TypeId × Value → H) (w : World) (held : Bool) (fuel : Nat) (cs : List Value) (d : DataW H) (pl : List MemPlace),
  DataW.trod enc P w 0 (fun _ => true) held fuel t cs = some (d, pl) → (∀ n, n ∈ d.weights P t → n ≤ reachBytes) → ∃ v : α, Rep.rd w [] v cs
theorem wf_i64 {n : Int} (h : (Lit.int .i64 n).wf = true) : i64 n := by
 have := bounds_i64 h
 unfold i64
 omega
theorem opens_int {P : Program} {t : TypeId} (ht : P.underlying t = some (.int .i64)) : Opens Int P t := by
 intro H enc w held fuel cs d pl h _
 obtain ⟨n, rfl, _, hw⟩ := DataW.trod_int ht h
 exact ⟨n, rfl, wf_i64 hw⟩
theorem list_of {α : Type} {p : Nat → α → Prop} : ∀ (n : Nat), (∀ i, i < n → ∃ x, p i x) → ∃ xs : List α, xs.length = n ∧ ∀ i x, xs[i]? = some x → p i x
 | 0, _ => ⟨[], rfl, by simp⟩
 | n + 1, h => by
   obtain ⟨xs, hl, hx⟩ := list_of n (fun i hi => h i (by omega)); obtain ⟨y, hy⟩ := h n (by omega); refine ⟨xs ++ [y], by simp [hl], fun i x hi => ?_⟩
   by_cases g : i < n
   · rw [List.getElem?_append_left (by omega)] at hi
     exact hx i x hi
   · have hi2 := hi
     have : i < (xs ++ [y]).length := (List.getElem?_eq_some_iff.1 hi).1
     obtain rfl : i = n := by simp [hl] at this; omega
     rw [List.getElem?_append_right (by omega), hl] at hi
     simp at hi
     rw [← hi]; exact hy
theorem weightsAll_mem {H : Type} {P : Program} {e : TypeId} {d : DataW H} {n : Nat} (hn : n ∈ d.weights P e) : ∀ (ds : List (DataW H)), d ∈ ds → n ∈ DataW.weightsAll P e ds
 | [], h => by simp at h
 | x :: r, h => by
   simp only [DataW.weightsAll, List.mem_append]
   rcases List.mem_cons.1 h with rfl | h
   · exact .inl hn
   · exact .inr (weightsAll_mem hn r h)
theorem opens_slice {α : Type} [Rep1 α] {P : Program} {t e : TypeId} (ht : P.underlying t = some (.slice e)) (hc : P.cellsOf e = Rep.sz α) (hb : 1 ≤ P.bytesOf e) (ho : Opens α P e) : Opens (List α) P t := by
 intro H enc w held fuel cs d pl h hw
 have hpos := Rep1.pos (α := α)
 rcases open_slice ht h with ⟨rfl, _⟩ | ⟨a, len, cap, m, n, D, Pl, rfl, _, hl, hm, hmm, hx, he⟩
 · exact ⟨[], none, 0, 0, rfl, rfl, Nat.le_refl _, by simp [capOk], by omega, .inl rfl⟩
 obtain ⟨rfl, rfl⟩ := Prod.mk.inj hx
 simp only [if_true] at hmm
 subst hmm
 have hw1 : m * P.bytesOf e ≤ reachBytes := by
  have := hw ((((List.range len).map D).length + ((List.range (m - len)).map fun j => D (len + j)).length) * P.bytesOf e) (by simp [DataW.weights, ht]); simp only [List.length_map, List.length_range] at this
  rwa [show len + (m - len) = m by omega] at this
 have hw2 : m ≤ reachBytes := Nat.le_trans (by simpa using Nat.mul_le_mul_left m hb) hw1
 have hr : reachBytes ≤ 140737488355328 := by decide
 have hmx : maxLen = 9223372036854775807 := by decide
 obtain ⟨xs, hlen, hxs⟩ := list_of (α := α) (p := fun i x => ∃ es, w.cells? 0 (a.add (i * Rep.sz α)) (Rep.sz α) = some es ∧ Rep.rd w [] x es) len (fun i hi => by
  obtain ⟨cs', h1, h2⟩ := he i (by omega); rw [hc] at h1
  obtain ⟨v, hv⟩ := ho H enc w held n cs' (D i) (Pl i) h2 (fun k hk => hw k (by
   simp only [DataW.weights, ht, List.mem_cons, List.mem_append]
   exact .inr (.inl (weightsAll_mem hk _ (List.mem_map.2 ⟨i, List.mem_range.2 hi, rfl⟩)))))
  exact ⟨v, cs', h1, hv⟩)
 refine ⟨xs, some a, len, m, rfl, hlen, hl, by unfold capOk; omega, by omega, ?_⟩
 by_cases h0 : len = 0
 · left; subst h0; simpa using hlen
 right
 obtain ⟨b, o, spot⟩ := a
 have hspot : spot = none := by
  obtain ⟨es, h1, -⟩ := hxs 0 (xs[0]'(by omega)) (List.getElem?_eq_getElem (by omega)); obtain ⟨_, hl1, h2⟩ := World.cells?_some h1; have h3 := h2 0 hpos; rw [List.getElem?_eq_getElem (by omega)] at h3
  simpa [Addr.add] using World.cell?_spot h3
 subst hspot
 refine ⟨b, o, rfl, fun k x hk => ?_⟩
 obtain ⟨es, h1, h2⟩ := hxs k x hk
 refine ⟨es, h2, by simp, fun j u hu => ?_⟩
 obtain ⟨_, hl1, h3⟩ := World.cells?_some h1
 have := h3 j (by rw [← hl1]; exact (List.getElem?_eq_some_iff.1 hu).1)
 rw [hu, Go.WideShapes.add_plain, Go.WideShapes.add_plain] at this
 exact this
end
section
open Go.ChangeShapes Go.WideShapes Go.ChangeAt Go.RowKit Go.Deep Go.Joins
instance {α β : Type} [Rep α] [Rep β] : Rep (α × β) where
 sz := Rep.sz α + Rep.sz β
 rd w M x cs := ∃ ds es, cs = ds ++ es ∧ Rep.rd w M x.1 ds ∧ Rep.rd w M x.2 es
 len := by rintro w M x cs ⟨ds, es, rfl, h1, h2⟩; rw [List.length_append, Rep.len h1, Rep.len h2]
 keep := by rintro w w' M x cs ⟨ds, es, rfl, h1, h2⟩ k; exact ⟨ds, es, rfl, Rep.keep h1 k, Rep.keep h2 k⟩
 less := by rintro w M M' x cs ⟨ds, es, rfl, h1, h2⟩ k; exact ⟨ds, es, rfl, Rep.less h1 k, Rep.less h2 k⟩
 more := by rintro w M x cs b ⟨ds, es, rfl, h1, h2⟩ k; exact ⟨ds, es, rfl, Rep.more h1 k, Rep.more h2 k⟩
instance {α β : Type} [Rep1 α] [Rep β] : Rep1 (α × β) := ⟨Nat.lt_of_lt_of_le (Rep1.pos (α := α)) (Nat.le_add_right _ _)⟩
instance : Rep1 Bool := ⟨by decide⟩
instance : Rep ByteArray where
 sz := 1
 rd _ _ n cs := cs = [.string n]
 len h := by rw [h]; rfl
 keep h _ := h
 less h _ := h
 more h _ := h
instance : Rep1 ByteArray := ⟨by decide⟩
theorem opens_bool {P : Program} {t : TypeId} (ht : P.underlying t = some .bool) : Opens Bool P t := by
 intro H enc w held fuel cs d pl h _
 obtain ⟨b, rfl, _⟩ := DataW.trod_bool ht h
 exact ⟨b, rfl⟩
def OpensFrom (α : Type) [Rep α] (P : Program) (fs : List Field) (off : Nat) : Prop :=
 ∀ (H : Type) (enc : TypeId × Value → H) (w : World) (held : Bool) (n : Nat) (cs : List Value) (xs : List (DataW H × List MemPlace)),
  xs.length = fs.length → cs.length = off + Rep.sz α →
  (∀ (i : Nat) (f : Field), fs[i]? = some f → DataW.trod enc P w 0 (fun _ => true) held n f.type ((cs.drop f.offset).take (P.cellsOf f.type)) = xs[i]?) →
  (∀ (i : Nat) (f : Field) (y : DataW H × List MemPlace), fs[i]? = some f → xs[i]? = some y → ∀ k, k ∈ y.1.weights P f.type → k ≤ reachBytes) →
  ∃ v : α, Rep.rd w [] v (cs.drop off)
theorem opens_last {α : Type} [Rep α] {P : Program} {f : Field} {off : Nat} (ho : f.offset = off) (hc : P.cellsOf f.type = Rep.sz α) (h : Opens α P f.type) : OpensFrom α P [f] off := by
 intro H enc w held n cs xs hl hcs hf hw
 match xs, hl with
 | [x], _ =>
   have h0 := hf 0 f rfl; simp only [List.getElem?_cons_zero] at h0; rw [ho, hc, List.take_of_length_le (by rw [List.length_drop]; omega)] at h0; exact h H enc w held n _ x.1 x.2 h0 (hw 0 f x rfl rfl)
theorem opens_next {α β : Type} [Rep α] [Rep β] {P : Program} {f : Field} {fs : List Field} {off : Nat} (ho : f.offset = off) (hc : P.cellsOf f.type = Rep.sz α) (h : Opens α P f.type) (hr : OpensFrom β P fs (off + Rep.sz α)) : OpensFrom (α × β) P (f :: fs) off := by
 intro H enc w held n cs xs hl hcs hf hw
 match xs, hl with
 | x :: ys, hl =>
   have h0 := hf 0 f rfl; simp only [List.getElem?_cons_zero] at h0; rw [ho, hc] at h0; obtain ⟨a, ha⟩ := h H enc w held n _ x.1 x.2 h0 (hw 0 f x rfl rfl); have hcs' : cs.length = off + (Rep.sz α + Rep.sz β) := hcs; obtain ⟨b, hb⟩ := hr H enc w held n cs ys (by simpa using hl) (by omega) (fun i g hg => by simpa using hf (i + 1) g (by simpa using hg)) (fun i g y hg hy => hw (i + 1) g y (by simpa using hg) (by simpa using hy)); refine ⟨(a, b), (cs.drop off).take (Rep.sz α), cs.drop (off + Rep.sz α), ?_, ha, hb⟩; rw [← List.drop_drop, List.take_append_drop]
theorem opens_struct {α : Type} [Rep α] {P : Program} {t : TypeId} {fs : Array Field} (hs : P.underlying t = some (.struct fs)) (hC : P.cellsOf t = Rep.sz α) (h : OpensFrom α P fs.toList 0) : Opens α P t := by
 intro H enc w held fuel cs d pl hd hw
 obtain ⟨xs, n, _, hx, hl, hlen, hf⟩ := DataW.trod_struct hs hd
 obtain ⟨rfl, rfl⟩ := Prod.mk.inj hx
 obtain ⟨v, hv⟩ := h H enc w held n cs xs (by simpa using hlen) (by rw [Nat.zero_add, ← hC]; exact hl) (fun i f hi => hf i f (by simpa using hi)) (fun i f y hi hy k hk => hw k (by
  simp only [DataW.weights, hs]
  exact DataW.weights_mem_each (j := i) (by rw [List.getElem?_map, hi]; rfl) (by rw [List.getElem?_map, hy]; rfl) k hk))
 exact ⟨v, by simpa using hv⟩
end
section
open Go.RowKit
theorem int_info : (Tryz.prog.info? 3).map (fun i => (i.zero, i.size, i.bytes)) = some (some (.int .i64 0), 1, 8) := by kernel_rfl
theorem append_int {w : World} {base : Nat} {v : Value} {n : Nat} {xs : List Int} (h : w.ownsRow base 3 1 v n (xs.map (Value.int .i64))) (hb : base ≤ w.heap.size) (hn : n ≤ 1000000000) (g : Nat) (x : Int)
 (hc : w.cell? ⟨g, 0, none⟩ = some (.int .i64 x)) :
 ∃ v' w', (Builtin.append_ #[27, 27] 27 #[v, .slice (some ⟨g, 0, none⟩) 1 1]).run Tryz.prog w = .ok v' w' ∧ w'.ownsRow base 3 1 v' (n + 1) ((xs ++ [x]).map (Value.int .i64)) ∧ w.grownBy w' v.ownBlock ∧
  (v'.ownBlock = v.ownBlock ∨ v'.ownBlock = some w.heap.size) ∧ ∃ gg cc, v' = .slice (some ⟨gg, 0, none⟩) (n + 1) cc := by
 obtain ⟨i0, hi, hz0, hz1, hz2⟩ := info_parts int_info
 obtain ⟨v', w', h1, h2, h3, _, h5⟩ := run_append_own_at (P := Tryz.prog) w base 27 27 3 i0 (.int .i64 0) 1 8 Tryz.underlying27 hi hz0 hz1 hz2 rfl (by decide) v n _ h ⟨g, 0, none⟩ 1 1 [.int .i64 x] rfl
  (by intro j u hu; match j, hu with | 0, hu => cases hu; exact hc) (by simp [Value.oneCell']) (by unfold maxLen; omega) (by omega) hb
 rw [List.map_append]
 exact ⟨v', w', h1, h2, h3, h5, ownsRow_succ h2⟩
end
section
open Go.RowKit Go.Shelf
abbrev Wd : Fence := Fence.wide
def Stab (B : Nat) (J : World → Prop) : Prop :=
 ∀ W W' row, J W → W.grownBy W' row → (∀ r, row = some r → B ≤ r ∧ ∃ o : Obj, W.heap[r]? = some o ∧ o.isCells = false) → J W'
structure KeepsTo (s : Nat) (M : List Nat) (w w' : World) : Prop where
 size : w.heap.size ≤ w'.heap.size
 block : ∀ k, k < s → k ∉ M → w'.heap[k]? = w.heap[k]?
section
variable {s : Nat} {M : List Nat} {w w' w'' : World}
theorem KeepsTo.refl (s : Nat) (M : List Nat) (w : World) : KeepsTo s M w w := ⟨Nat.le_refl _, fun _ _ _ => rfl⟩
theorem KeepsTo.trans (h : KeepsTo s M w w') (h' : KeepsTo s M w' w'') : KeepsTo s M w w'' :=
 ⟨Nat.le_trans h.size h'.size, fun k hk hm => (h'.block k hk hm).trans (h.block k hk hm)⟩
theorem Keeps.to (h : Keeps M w w') (hs : s ≤ w.heap.size) : KeepsTo s M w w' := ⟨h.size, fun k hk hm => h.block k (Nat.lt_of_lt_of_le hk hs) hm⟩
theorem Keeps.andTo (h : Keeps M w w') (h' : KeepsTo s M w' w'') (hs : w.heap.size ≤ s) : Keeps M w w'' :=
 ⟨Nat.le_trans h.size h'.size, fun k hk hm => (h'.block k (Nat.lt_of_lt_of_le hk hs) hm).trans (h.block k hk hm)⟩
end
theorem KeepsTo.alloc {s : Nat} {M : List Nat} {w w' : World} (h : KeepsTo s M w w') (hs : s ≤ w'.heap.size) (o : Obj) : KeepsTo s M w (w'.alloc o) :=
 ⟨Nat.le_trans h.size (by simp), fun k hk hm => (Below.heap_alloc w' o k (by omega)).trans (h.block k hk hm)⟩
theorem KeepsTo.setCell {s : Nat} {M : List Nat} {w w' : World} (h : KeepsTo s M w w') {p : Addr} (hp : p.block ∈ M ∨ s ≤ p.block) (u : Value) : KeepsTo s M w (w'.setCell p u) :=
 ⟨Nat.le_trans h.size (by simp), fun k hk hm => (Below.heap_setCell w' p u k (by
  rintro rfl
  rcases hp with hp | hp
  · exact hm hp
  · omega)).trans (h.block k hk hm)⟩
theorem KeepsTo.grown {s : Nat} {M : List Nat} {w w' w'' : World} {row : Option Nat} (h : KeepsTo s M w w') (hs : s ≤ w'.heap.size) (hg : w'.grownBy w'' row) (hr : ∀ k, row = some k → k ∈ M ∨ s ≤ k) : KeepsTo s M w w'' :=
 ⟨Nat.le_trans h.size hg.size, fun k hk hm => (hg.block k (by omega) (fun e => by
  rcases hr k e.symm with g | g
  · exact hm g
  · omega)).trans (h.block k hk hm)⟩
theorem KeepsTo.drew {s : Nat} {M : List Nat} {w w' : World} (h : KeepsTo s M w w') : KeepsTo s M w w'.drew := ⟨h.size, h.block⟩
theorem Stab.drew {B : Nat} {J : World → Prop} (h : Stab B J) {W : World} (hj : J W) : J W.drew :=
 h W _ none hj ⟨rfl, rfl, rfl, Nat.le_refl _, fun _ _ _ => rfl⟩ (fun r e => by cases e)
theorem KeepsTo.cellTo {s : Nat} {M : List Nat} {w w' : World} (h : KeepsTo s M w w') {b o : Nat} (hb : b < s) (hm : b ∉ M) {u : Value} (hc : w.cell? ⟨b, o, none⟩ = some u) : w'.cell? ⟨b, o, none⟩ = some u := by
 rw [World.cell?_of_block (w := w) (h.block b hb hm)]; exact hc
def Yields (F : Fence) (P : Program) (g : Nat) (lb : Array Value) (w0 : World) (M : List Nat) (xs : List (Array Value)) : Prop :=
 ∀ (l : Nat) (J : Nat → List (Array Value) → World → Prop) (Jx : World → Prop) (Jp : List PanicEntry → World → Prop) (W : World),
  Keeps M w0 W → (∀ s r, Stab W.heap.size (J s r)) → Stab W.heap.size Jx → (∀ s, W.heap.size ≤ s → J s xs W) →
  (∀ s x rest W1, (∃ pre, xs = pre ++ x :: rest) → W.heap.size ≤ s → s ≤ W1.heap.size → KeepsTo W.heap.size M W W1 → J s (x :: rest) W1 → YieldAt F 8 P l x W1 fun e W2 =>
    (e = .returned (.bool true) ∧ J s rest W2 ∧ KeepsTo s M W1 W2) ∨ (e = .returned (.bool false) ∧ Jx W2) ∨ (∃ ch, e = .panicked ch ∧ Jp ch W2)) →
  CallsIn F 9 P g (#[.func (.yield l) #[] #[]] ++ lb) W fun e W' =>
   ((∃ v, e = .returned v) ∧ ((∃ s, W.heap.size ≤ s ∧ J s [] W') ∨ Jx W')) ∨ (∃ ch, e = .panicked ch ∧ Jp ch W')
def roundPost' (P : Program) (l : Nat) (R : Ending → World → Prop) : Exit → Act → World → Prop
 | .normal, _, w => ∃ v w', (Instr.endRound l none).run P w = .ok v w' ∧ R (.returned v) w'
 | .ret, _, w => ∃ v w', (Instr.endRound l (some .ret)).run P w = .ok v w' ∧ R (.returned v) w'
 | .exit id, _, w => ∃ v w', (Instr.endRound l (some (.exit id))).run P w = .ok v w' ∧ R (.returned v) w'
 | .goto t, _, w => ∃ v w', (Instr.endRound l (some (.goto t))).run P w = .ok v w' ∧ R (.returned v) w'
 | .panic ch, a, w => a.defers = [] ∧ R (.panicked ch) w
 | .outgrown, _, _ => False
variable {P : Program} {F : Fence}
theorem set_deferred {W : World} {D : Nat} {a : Addr} {v : Value} (h : W.heap[D]? = some (.deferred (some []))) : (W.setCell a v).heap[D]? = some (.deferred (some [])) := (KeepsOthers.setCell W a v).same D _ h rfl
theorem mark_cell {W : World} {D : Nat} {a : Addr} {v : Value} (h : W.cell? a = some v) (hd : W.heap[D]? = some (.deferred (some []))) : (W.putObj D (.deferred none)).cell? a = some v :=
 cell_kept h (grownBy_putObj' _ D (.deferred none)) (fun r e => by cases e; exact ⟨_, hd, rfl⟩)
theorem mark_below {w W : World} {D n : Nat} (h : Below n w W) (hn : n ≤ D) (hw : n ≤ w.heap.size) : Below n w (W.putObj D (.deferred none)) :=
 h.grown (grownBy_putObj' _ D _) (Nat.le_trans hw h.size) (fun k e => by cases e; exact hn)
def bodyPost' (s : Nat) (M : List Nat) (I : World → Prop) (Ix : Code → World → Prop) (W : World) : Exit → Act → World → Prop
 | .normal, _, W' => KeepsTo s M W W' ∧ I W'
 | .ret, _, W' => KeepsTo s M W W' ∧ Ix .ret W'
 | .exit id, _, W' => KeepsTo s M W W' ∧ Ix (.exit id) W'
 | .goto t, _, W' => KeepsTo s M W W' ∧ Ix (.goto t) W'
 | .panic _, _, _ => False
 | .outgrown, _, _ => False
theorem Stab.put {B : Nat} {J : World → Prop} (h : Stab B J) {W : World} {l : Nat} {o : Obj} (o' : Obj) (hj : J W) (hB : B ≤ l) (hl : W.heap[l]? = some o) (ho : o.isCells = false) : J (W.putObj l o') :=
 h W _ (some l) hj (grownBy_putObj' W l o') (fun r e => by cases e; exact ⟨hB, o, hl, ho⟩)
theorem Stab.alloc {B : Nat} {J : World → Prop} (h : Stab B J) {W : World} (o : Obj) (hj : J W) : J (W.alloc o) :=
 h W _ none hj (World.grownBy_alloc W o none) (fun r e => by cases e)
theorem Stab.and {B : Nat} {I J : World → Prop} (h : Stab B I) (k : Stab B J) : Stab B (fun W => I W ∧ J W) := fun A A' row hs hg hr => ⟨h A A' row hs.1 hg hr, k A A' row hs.2 hg hr⟩
theorem stab_pure (B : Nat) (p : Prop) : Stab B (fun _ => p) := fun _ _ _ h _ _ => h
theorem stab_ex {B : Nat} {α : Sort _} {I : α → World → Prop} (h : ∀ x, Stab B (I x)) : Stab B (fun W => ∃ x, I x W) := fun A A' row ⟨x, hx⟩ hg hr => ⟨x, h x A A' row hx hg hr⟩
theorem stab_cell (B : Nat) (a : Addr) (v : Value) : Stab B (fun W => W.cell? a = some v) := fun _ _ _ hs hg hr => cell_kept hs hg (fun r e => (hr r e).2)
theorem stab_free (B : Nat) (a : Addr) (v : Value) : Stab B (fun W => W.cell? a = some v ∧ W.frozen? a = false) := fun _ _ _ hs hg hr => ⟨cell_kept hs.1 hg (fun r e => (hr r e).2), (frozen_kept hs.1 hg (fun r e => (hr r e).2)).trans hs.2⟩
theorem stab_below {B n : Nat} {w : World} (hn : n ≤ w.heap.size) (hB : n ≤ B) : Stab B (fun W => Below n w W) :=
 fun _ _ _ hs hg hr => hs.grown hg (Nat.le_trans hn hs.size) (fun k e => Nat.le_trans hB (hr k e).1)
theorem Stab.mono {B B' : Nat} {J : World → Prop} (h : Stab B J) (hB : B ≤ B') : Stab B' J := fun A A' row hs hg hr => h A A' row hs hg (fun r e => ⟨Nat.le_trans hB (hr r e).1, (hr r e).2⟩)
theorem wp_rangeFunc {g : Operand} {ps : Array Tmp} {assign body : Code} {Q : Exit → Act → World → Prop} {a : Act} {w : World}
 (hro : F.round = none) {gf : Nat} {lb : Array Value} (hg : a.eval g = .func (.func gf) #[] lb) (hFg : F.fn gf) (eg : ∀ args w, (callFunc gf args).run P w = .ok (.enter gf args) w)
 {w0 : World} {M : List Nat} {xs : List (Array Value)} (hseq : Yields F P gf lb w0 M xs) (hk0 : Keeps M w0 w) (hM : ∀ k, k ∈ M → k < w.heap.size) (hps : ∀ x, x ∈ xs → x.size = ps.size)
 (I : Nat → List (Array Value) → World → Prop) (Ix : Code → World → Prop) (hI : ∀ s r, Stab w.heap.size (I s r)) (hIx : ∀ c, Stab w.heap.size (Ix c)) (h0 : ∀ s, w.heap.size ≤ s → I s xs w)
 (hround : ∀ l s x rest W, (∃ pre, xs = pre ++ x :: rest) → w.heap.size ≤ l → l < s → s ≤ W.heap.size → (∃ r, W.heap[l]? = some (.loop r)) → Keeps M w W → I s (x :: rest) W →
   assign.wpIn (F.inRound l) 8 P (Exit.then (fun a' W' => KeepsTo s M W W' ∧ ∃ C : World → Prop, Stab w.heap.size C ∧ C W' ∧
    ∀ W'', (∃ r, W''.heap[l]? = some (.loop r)) → W''.heap.size = W'.heap.size → C W'' → body.wpIn (F.inRound l) 8 P (bodyPost' s M (I s rest) Ix W'') a' W'') (fun _ _ _ => False))
    { tmps := (ps.zip x).foldl (fun t (p, v) => t.setIfInBounds p v) a.tmps, defers := [] } W)
 (hdone : ∀ D s W, w.heap.size ≤ D → D < s → I s [] W → W.heap[D]? = some (.deferred (some [])) → Q .normal { a with defers := { target := .collected D, args := #[] } :: a.defers } W)
 (hstop : ∀ D c W, w.heap.size ≤ D → Ix c W → W.heap[D]? = some (.deferred (some [])) → c.wpIn F 10 P Q { a with defers := { target := .collected D, args := #[] } :: a.defers } W) :
 (Code.rangeFunc g ps assign body).wpIn F 10 P Q a w := by
 refine wpIn_rangeFunc ?_
 intro fn hfn
 rw [hro]
 obtain ⟨rec, hrec⟩ : ∃ rec : LoopState → Option Code → Loop, rec = fun st pe => { state := st, pending := pe, fn, tmps := a.tmps, params := ps, assign, body, defers := w.heap.size } := ⟨_, rfl⟩
 obtain ⟨W1, hW1⟩ : ∃ W1, (w.alloc (.deferred (some []))).alloc (.loop (rec .ready none)) = W1 := ⟨_, rfl⟩
 have hsz1 : W1.heap.size = w.heap.size + 2 := by rw [← hW1]; simp
 have hL1 : W1.heap[w.heap.size + 1]? = some (.loop (rec .ready none)) := by
  rw [← hW1]; have := World.alloc_heap_new (w.alloc (.deferred (some []))) (.loop (rec .ready none)); rwa [World.size_alloc] at this
 have hK1 : W1.heap[w.heap.size]? = some (.deferred (some [])) := by
  rw [← hW1]; exact (Below.heap_alloc _ _ _ (by simp)).trans (World.alloc_heap_new w _)
 have hk1 : Keeps M w W1 := by rw [← hW1]; exact ((Keeps.refl M w).alloc _).alloc _
 have hMl : w.heap.size + 1 ∉ M ∧ w.heap.size ∉ M := ⟨fun e => by have := hM _ e; omega, fun e => by have := hM _ e; omega⟩
 have hstab : ∀ {B : Nat} {J : World → Prop} {st : LoopState} {pe : Option Code}, Stab w.heap.size J → w.heap.size + 2 ≤ B → Stab B (fun W => J W ∧ W.heap[w.heap.size + 1]? = some (.loop (rec st pe)) ∧ W.heap[w.heap.size]? = some (.deferred (some []))) := by
  intro B J st pe hJ hB A A' row hs hg' hr; refine ⟨hJ A A' row hs.1 hg' (fun r e => ⟨by have := (hr r e).1; omega, (hr r e).2⟩), ?_, ?_⟩
  · refine (hg'.block _ (Array.getElem?_eq_some_iff.1 hs.2.1).1 (fun e => ?_)).trans hs.2.1
    have := (hr _ e.symm).1; omega
  · refine (hg'.block _ (Array.getElem?_eq_some_iff.1 hs.2.2).1 (fun e => ?_)).trans hs.2.2
    have := (hr _ e.symm).1; omega
 refine ⟨w.heap.size + 1, [{ target := .collected w.heap.size, args := #[] }], W1, { target := .fn (.func gf) lb, args := #[.func (.yield (w.heap.size + 1)) #[] #[]] }, W1, gf,
  #[.func (.yield (w.heap.size + 1)) #[] #[]] ++ lb, W1, ?_, ?_, ?_, ?_, fun _ => by omega, ?_⟩
 · rw [← hW1, hrec]; exact run_enterLoop_outer _ _ _ _ _
 · simp only [resolve, hg]
   simp [go_sem]
 · intro f' hf'; simp [Target.leads] at hf'; subst hf'; exact hFg
 · simp [invoke, go_sem, eg]
 · refine (hseq (w.heap.size + 1)
    (fun s r W => I s r W ∧ W.heap[w.heap.size + 1]? = some (.loop (rec .ready none)) ∧ W.heap[w.heap.size]? = some (.deferred (some [])))
    (fun W => ∃ c, Ix c W ∧ W.heap[w.heap.size + 1]? = some (.loop (rec .done (some c))) ∧ W.heap[w.heap.size]? = some (.deferred (some []))) (fun _ _ => False)
    W1 (hk0.trans hk1) (fun s r => hstab (hI s r) (by omega))
    (fun A A' row hs hg' hr => by obtain ⟨c, hc⟩ := hs; exact ⟨c, hstab (B := W1.heap.size) (hIx c) (by omega) A A' row hc hg' hr⟩)
    (fun s hs => ⟨by rw [← hW1]; exact (hI s xs).alloc _ ((hI s xs).alloc _ (h0 s (by omega))), hL1, hK1⟩)
    ?_).mono ?_
   ·
    rintro s x rest W hpre hs1 hs2 hkW ⟨hi, hl, hd⟩; have hpre' := hpre; obtain ⟨pre, hpre⟩ := hpre; have hy := run_yield (P := P) (args := x) hl (by rw [hrec]; exact hps x (by rw [hpre]; simp)); rw [hrec] at hy; have hkw : Keeps M w W := hk1.andTo hkW (by omega); refine ⟨fn, _, assign, body, hy, roundIn_of_wpIn hfn (wpIn_mono (hround _ s x rest W hpre' (by omega) (by omega) hs2 ⟨_, hl⟩ hkw hi) ?_)⟩; clear hy; intro e a' Wa hp
    cases e with
    | normal =>
      obtain ⟨hka, C, hC, hCa, hb⟩ := hp; have hl2 := (hka.block _ (by omega) hMl.1).trans hl; have hd2 := (hka.block _ (by omega) hMl.2).trans hd; have hlt : w.heap.size + 1 < Wa.heap.size := (Array.getElem?_eq_some_iff.1 hl2).1; refine ⟨_, run_beginRound hl2 (by rw [hrec]), ?_⟩; have hl3 : (Wa.putObj (w.heap.size + 1) (.loop { rec .ready none with state := .busy })).heap[w.heap.size + 1]? = some (.loop { rec .ready none with state := .busy }) := World.putObj_heap_same hlt; have hd3 : (Wa.putObj (w.heap.size + 1) (.loop { rec .ready none with state := .busy })).heap[w.heap.size]? = some (.deferred (some [])) := (World.putObj_heap_other (by omega)).trans hd2; refine wpIn_mono (hb _ ⟨_, hl3⟩ World.putObj_size (hC.put _ hCa (by omega) hl2 rfl)) ?_
      have fin : ∀ (jump : Option Code) (W3 : World), KeepsTo s M (Wa.putObj (w.heap.size + 1) (.loop { rec .ready none with state := .busy })) W3 →
       (Instr.endRound (w.heap.size + 1) jump).run P W3 = .ok (.bool jump.isNone) (W3.putObj (w.heap.size + 1) (.loop (rec (if jump.isNone then .ready else .done) jump))) ∧
       W3.heap[w.heap.size + 1]? = some (.loop { rec .ready none with state := .busy }) ∧
       (W3.putObj (w.heap.size + 1) (.loop (rec (if jump.isNone then .ready else .done) jump))).heap[w.heap.size + 1]? = some (.loop (rec (if jump.isNone then .ready else .done) jump)) ∧
       (W3.putObj (w.heap.size + 1) (.loop (rec (if jump.isNone then .ready else .done) jump))).heap[w.heap.size]? = some (.deferred (some [])) := fun jump W3 hk3 => by
       have hl4 := (hk3.block _ (by omega) hMl.1).trans hl3; have := run_endRound (P := P) jump hl4; rw [hrec] at this ⊢; exact ⟨this, by rw [hrec] at hl4; exact hl4, World.putObj_heap_same (Array.getElem?_eq_some_iff.1 hl4).1, (World.putObj_heap_other (by omega)).trans ((hk3.block _ (by omega) hMl.2).trans hd3)⟩
      rintro e a3 W3 hp
      cases e with
      | normal =>
        obtain ⟨hk3, hi3⟩ := hp; obtain ⟨hr, hl4, hl5, hd5⟩ := fin none W3 hk3; refine ⟨_, _, hr, .inl ⟨rfl, ⟨(hI s rest).put _ hi3 (by omega) hl4 rfl, hl5, hd5⟩, ?_⟩⟩; refine ⟨?_, fun k hk hm => ?_⟩
        · have h1 := hka.size
          have h2 := hk3.size; simp only [World.putObj_size] at h2 ⊢; omega
        · by_cases hkl : k = w.heap.size + 1
          · rw [hkl, hl5, hl]; rfl
          · rw [World.putObj_heap_other hkl, hk3.block k hk hm, World.putObj_heap_other hkl]
            exact hka.block k hk hm
      | ret =>
        obtain ⟨hk3, hi3⟩ := hp; obtain ⟨hr, hl4, hl5, hd5⟩ := fin (some .ret) W3 hk3; exact ⟨_, _, hr, .inr (.inl ⟨rfl, .ret, (hIx _).put _ hi3 (by omega) hl4 rfl, hl5, hd5⟩)⟩
      | exit id =>
        obtain ⟨hk3, hi3⟩ := hp; obtain ⟨hr, hl4, hl5, hd5⟩ := fin (some (.exit id)) W3 hk3; exact ⟨_, _, hr, .inr (.inl ⟨rfl, .exit id, (hIx _).put _ hi3 (by omega) hl4 rfl, hl5, hd5⟩)⟩
      | goto t =>
        obtain ⟨hk3, hi3⟩ := hp; obtain ⟨hr, hl4, hl5, hd5⟩ := fin (some (.goto t)) W3 hk3; exact ⟨_, _, hr, .inr (.inl ⟨rfl, .goto t, (hIx _).put _ hi3 (by omega) hl4 rfl, hl5, hd5⟩)⟩
      | panic ch => exact hp.elim
      | outgrown => exact hp.elim
    | exit id => exact hp.elim
    | goto t => exact hp.elim
    | ret => exact hp.elim
    | panic chain => exact hp.elim
    | outgrown => exact hp.elim
   ·
    rintro e W2 (⟨⟨v, rfl⟩, (⟨s, hs, hi, hl, hd⟩ | ⟨c, hi, hl, hd⟩)⟩ | ⟨ch, _, hf⟩)
    · exact ⟨none, _, by have := run_endLoop (P := P) hl (by rw [hrec]; simp); rw [hrec] at this; exact this, hdone _ s _ (Nat.le_refl _) (by omega) ((hI s []).put _ hi (by omega) hl rfl) ((World.putObj_heap_other (by omega)).trans hd)⟩
    · exact ⟨some c, _, by have := run_endLoop (P := P) hl (by rw [hrec]; simp); rw [hrec] at this; exact this, hstop _ c _ (Nat.le_refl _) ((hIx c).put _ hi (by omega) hl rfl) ((World.putObj_heap_other (by omega)).trans hd)⟩
    · exact hf.elim
end
end Go.Proofs.YtboapndkopabiaaGreat
