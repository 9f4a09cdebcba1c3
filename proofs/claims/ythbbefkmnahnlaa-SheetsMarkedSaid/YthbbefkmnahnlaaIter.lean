/- A range over a function: a law in the form that this proof uses. 'Yields': the iterator hands over a list of values, one by one, as long as the rounds keep what it reads; a round may go on, say no more, or panic. 'wp_rangeFunc': the statement. No statement is proved here. -/
import Derived.Test.YthbbefkmnahnlaaBase
import Derived.RangeFuncNested
import Derived.RangeFuncBound
import Derived.RangeFuncCalls
import Derived.RangeFuncLeaves
import Derived.Shelf.Abstract
import Derived.Shelf.RegionOpen
import Derived.OwnWalkIn
import Derived.TacticsInMore
import Derived.LoopNIn
import Derived.LoopIn
namespace Go.Proofs.Ythbbefkmnahnlaa
open Go.RowKit Go.Shelf

abbrev Wd : Fence := Fence.wide

/-- J abides new blocks, and turns of one block from B on that holds no cells. -/
def Stab (B : Nat) (J : World → Prop) : Prop :=
  ∀ W W' row, J W → W.grownBy W' row → (∀ r, row = some r → B ≤ r ∧ ∃ o : Obj, W.heap[r]? = some o ∧ o.isCells = false) → J W'

/-- Below block s all but the blocks M stays as it was. -/
structure KeepsTo (s : Nat) (M : List Nat) (w w' : World) : Prop where
  size : w.heap.size ≤ w'.heap.size
  block : ∀ k, k < s → k ∉ M → w'.heap[k]? = w.heap[k]?

section
variable {s : Nat} {M : List Nat} {w w' w'' : World}
theorem KeepsTo.refl (s : Nat) (M : List Nat) (w : World) : KeepsTo s M w w := ⟨Nat.le_refl _, fun _ _ _ => rfl⟩
theorem KeepsTo.trans (h : KeepsTo s M w w') (h' : KeepsTo s M w' w'') : KeepsTo s M w w'' :=
  ⟨Nat.le_trans h.size h'.size, fun k hk hm => (h'.block k hk hm).trans (h.block k hk hm)⟩
theorem Keeps.to (h : Keeps M w w') (hs : s ≤ w.heap.size) : KeepsTo s M w w' := ⟨h.size, fun k hk hm => h.block k (Nat.lt_of_lt_of_le hk hs) hm⟩
theorem Keeps.andTo (h : Keeps M w w') (h' : KeepsTo s M w' w'') (hs : w.heap.size ≤ s) : Keeps M w w'' :=
  ⟨Nat.le_trans h.size h'.size, fun k hk hm => (h'.block k (Nat.lt_of_lt_of_le hk hs) hm).trans (h.block k hk hm)⟩
end

theorem KeepsTo.alloc {s : Nat} {M : List Nat} {w w' : World} (h : KeepsTo s M w w') (hs : s ≤ w'.heap.size) (o : Obj) : KeepsTo s M w (w'.alloc o) :=
  ⟨Nat.le_trans h.size (by simp), fun k hk hm => (Below.heap_alloc w' o k (by omega)).trans (h.block k hk hm)⟩
theorem KeepsTo.setCell {s : Nat} {M : List Nat} {w w' : World} (h : KeepsTo s M w w') {p : Addr} (hp : p.block ∈ M ∨ s ≤ p.block) (u : Value) : KeepsTo s M w (w'.setCell p u) :=
  ⟨Nat.le_trans h.size (by simp), fun k hk hm => (Below.heap_setCell w' p u k (by
    rintro rfl
    rcases hp with hp | hp
    · exact hm hp
    · omega)).trans (h.block k hk hm)⟩
theorem KeepsTo.grown {s : Nat} {M : List Nat} {w w' w'' : World} {row : Option Nat} (h : KeepsTo s M w w') (hs : s ≤ w'.heap.size) (hg : w'.grownBy w'' row) (hr : ∀ k, row = some k → k ∈ M ∨ s ≤ k) : KeepsTo s M w w'' :=
  ⟨Nat.le_trans h.size hg.size, fun k hk hm => (hg.block k (by omega) (fun e => by
    rcases hr k e.symm with g | g
    · exact hm g
    · omega)).trans (h.block k hk hm)⟩
theorem KeepsTo.drew {s : Nat} {M : List Nat} {w w' : World} (h : KeepsTo s M w w') : KeepsTo s M w w'.drew := ⟨h.size, h.block⟩
theorem Stab.drew {B : Nat} {J : World → Prop} (h : Stab B J) {W : World} (hj : J W) : J W.drew :=
  h W _ none hj ⟨rfl, rfl, rfl, Nat.le_refl _, fun _ _ _ => rfl⟩ (fun r e => by cases e)
theorem KeepsTo.cellTo {s : Nat} {M : List Nat} {w w' : World} (h : KeepsTo s M w w') {b o : Nat} (hb : b < s) (hm : b ∉ M) {u : Value} (hc : w.cell? ⟨b, o, none⟩ = some u) : w'.cell? ⟨b, o, none⟩ = some u := by
  rw [World.cell?_of_block (w := w) (h.block b hb hm)]; exact hc

/-- The iterator g, with what it has captured, hands over xs, as long as the rounds keep all below s but M. -/
def Yields (F : Fence) (P : Program) (g : Nat) (lb : Array Value) (w0 : World) (M : List Nat) (xs : List (Array Value)) : Prop :=
  ∀ (l : Nat) (J : Nat → List (Array Value) → World → Prop) (Jx : World → Prop) (Jp : List PanicEntry → World → Prop) (W : World),
    Keeps M w0 W → (∀ s r, Stab W.heap.size (J s r)) → Stab W.heap.size Jx → (∀ s, W.heap.size ≤ s → J s xs W) →
    (∀ s x rest W1, (∃ pre, xs = pre ++ x :: rest) → W.heap.size ≤ s → s ≤ W1.heap.size → KeepsTo W.heap.size M W W1 → J s (x :: rest) W1 → YieldAt F 8 P l x W1 fun e W2 =>
      (e = .returned (.bool true) ∧ J s rest W2 ∧ KeepsTo s M W1 W2) ∨ (e = .returned (.bool false) ∧ Jx W2) ∨ (∃ ch, e = .panicked ch ∧ Jp ch W2)) →
    CallsIn F 9 P g (#[.func (.yield l) #[] #[]] ++ lb) W fun e W' =>
      ((∃ v, e = .returned v) ∧ ((∃ s, W.heap.size ≤ s ∧ J s [] W') ∨ Jx W')) ∨ (∃ ch, e = .panicked ch ∧ Jp ch W')

/-- What is asked at a round's end. -/
def roundPost' (P : Program) (l : Nat) (R : Ending → World → Prop) : Exit → Act → World → Prop
  | .normal, _, w => ∃ v w', (Instr.endRound l none).run P w = .ok v w' ∧ R (.returned v) w'
  | .ret, _, w => ∃ v w', (Instr.endRound l (some .ret)).run P w = .ok v w' ∧ R (.returned v) w'
  | .exit id, _, w => ∃ v w', (Instr.endRound l (some (.exit id))).run P w = .ok v w' ∧ R (.returned v) w'
  | .goto t, _, w => ∃ v w', (Instr.endRound l (some (.goto t))).run P w = .ok v w' ∧ R (.returned v) w'
  | .panic ch, a, w => a.defers = [] ∧ R (.panicked ch) w
  | .outgrown, _, _ => False

variable {P : Program} {F : Fence}

theorem roundIn_of_wpIn' {l : Nat} {f : FuncId} {fn : Func} {tmps : Array Value} {assign body : Code} {w : World} {R : Ending → World → Prop} (hF : F.fn f) (hfn : P.funcs[f]? = some fn)
    (h : assign.wpIn (F.inRound l) 8 P (Exit.then (fun a₁ w₁ => ∃ w₂, (Instr.beginRound l).run P w₁ = .ok () w₂ ∧ body.wpIn (F.inRound l) 8 P (roundPost' P l R) a₁ w₂) (fun _ _ _ => False))
      { tmps := tmps, defers := [] } w) :
    RoundIn F 8 P l f tmps assign body w R := by
  refine ⟨hF, fun c cs hr => ?_⟩
  let b : Frame := { (default : Frame) with fn := f, kind := .normal, roundOf := some l }
  have hb0 : Frame.round l f tmps assign body .normal = b.atR { tmps := tmps, defers := [] } [.code assign, .beginRound, .code body] := by
    simp [Frame.round, Frame.atR, b]
  have hr' : (F.inRound l).room ((c :: cs).length + 1 + 8) := hr
  have hF' : (F.inRound l).fn b.fn := hF
  obtain ⟨e, a₁, w₁, hq, harr⟩ := h b [.beginRound, .code body] (c :: cs) rfl hF' hr'
  rw [← hb0] at harr
  cases e with
  | normal =>
    obtain ⟨w₂, hbr, hbody⟩ := hq
    have s1 : StepsIn (Machine.fenced P (F.inRound l)) P (lone (b.atR a₁ [.beginRound, .code body]) (c :: cs) w₁) (lone (b.atR a₁ [.code body]) (c :: cs) w₂) :=
      .one (fenced_calm (fr := b.atR a₁ [.beginRound, .code body]) hF' hr' rfl) (stepR_beginRound rfl hbr)
    obtain ⟨e₂, a₂, w₃, hq₂, harr₂⟩ := hbody b [] (c :: cs) rfl hF' hr'
    cases e₂ with
    | normal =>
      obtain ⟨v, w₄, hend, hR⟩ := hq₂
      exact ⟨.returned v, w₄, hR, (StepsIn.trans harr s1).trans (StepsIn.trans harr₂ (.one (fenced_calm (fr := b.atR a₂ []) hF' hr' rfl) (stepR_round_end rfl rfl hend)))⟩
    | ret =>
      obtain ⟨v, w₄, hend, hR⟩ := hq₂
      obtain ⟨k₁, hs⟩ := harr₂.2 rfl
      exact ⟨.returned v, w₄, hR, (StepsIn.trans harr s1).trans (StepsIn.trans hs (.one (fenced_calm (fr := b.atR a₂ (.code .ret :: k₁)) hF' hr' rfl) (stepR_round_ret rfl rfl hend)))⟩
    | exit id =>
      obtain ⟨v, w₄, hend, hR⟩ := hq₂
      obtain ⟨k₁, hk, hs⟩ := harr₂.2 rfl rfl
      exact ⟨.returned v, w₄, hR, (StepsIn.trans harr s1).trans (StepsIn.trans hs (.one (fenced_calm (fr := b.atR a₂ (.code (.exit id) :: k₁)) hF' hr' rfl) (stepR_round_exit rfl rfl hk hend)))⟩
    | goto t =>
      obtain ⟨v, w₄, hend, hR⟩ := hq₂
      obtain ⟨k₁, hk, hs⟩ := harr₂.2 rfl rfl
      exact ⟨.returned v, w₄, hR, (StepsIn.trans harr s1).trans (StepsIn.trans hs (.one (fenced_calm (fr := b.atR a₂ (.code (.goto t) :: k₁)) hF' hr' rfl) (stepR_round_goto rfl rfl hk hend)))⟩
    | panic chain =>
      obtain ⟨hd, hR⟩ := hq₂
      obtain ⟨todo, hs⟩ := harr₂
      have hlv : ({ b.atR a₂ todo with mode := .panicking chain } : Frame).leaving P w₃ (.panicked chain) := ⟨rfl, hd, fn, hfn⟩
      exact ⟨.panicked chain, w₃, hR, (StepsIn.trans harr s1).trans (StepsIn.trans hs (.one (fenced_leaving (fr := { b.atR a₂ todo with mode := .panicking chain }) hF' hr' hlv) (step_leave_panicked hlv)))⟩
    | outgrown => exact hq₂.elim
  | exit id => exact hq.elim
  | goto t => exact hq.elim
  | ret => exact hq.elim
  | panic chain => exact hq.elim
  | outgrown => exact hq.elim

theorem set_deferred {W : World} {D : Nat} {a : Addr} {v : Value} (h : W.heap[D]? = some (.deferred (some []))) : (W.setCell a v).heap[D]? = some (.deferred (some [])) := (KeepsOthers.setCell W a v).same D _ h rfl
theorem mark_cell {W : World} {D : Nat} {a : Addr} {v : Value} (h : W.cell? a = some v) (hd : W.heap[D]? = some (.deferred (some []))) : (W.putObj D (.deferred none)).cell? a = some v :=
  cell_kept h (grownBy_putObj' _ D (.deferred none)) (fun r e => by cases e; exact ⟨_, hd, rfl⟩)
theorem mark_below {w W : World} {D n : Nat} (h : Below n w W) (hn : n ≤ D) (hw : n ≤ w.heap.size) : Below n w (W.putObj D (.deferred none)) :=
  h.grown (grownBy_putObj' _ D _) (Nat.le_trans hw h.size) (fun k e => by cases e; exact hn)

/-- What the body of a round must achieve (no panic): below s all but M stays, and the invariant moves on; or the round leaves by a jump. -/
def bodyPost' (s : Nat) (M : List Nat) (I : World → Prop) (Ix : Code → World → Prop) (W : World) : Exit → Act → World → Prop
  | .normal, _, W' => KeepsTo s M W W' ∧ I W'
  | .ret, _, W' => KeepsTo s M W W' ∧ Ix .ret W'
  | .exit id, _, W' => KeepsTo s M W W' ∧ Ix (.exit id) W'
  | .goto t, _, W' => KeepsTo s M W W' ∧ Ix (.goto t) W'
  | .panic _, _, _ => False
  | .outgrown, _, _ => False

theorem Stab.put {B : Nat} {J : World → Prop} (h : Stab B J) {W : World} {l : Nat} {o : Obj} (o' : Obj) (hj : J W) (hB : B ≤ l) (hl : W.heap[l]? = some o) (ho : o.isCells = false) : J (W.putObj l o') :=
  h W _ (some l) hj (grownBy_putObj' W l o') (fun r e => by cases e; exact ⟨hB, o, hl, ho⟩)
theorem Stab.alloc {B : Nat} {J : World → Prop} (h : Stab B J) {W : World} (o : Obj) (hj : J W) : J (W.alloc o) :=
  h W _ none hj (World.grownBy_alloc W o none) (fun r e => by cases e)

theorem Stab.and {B : Nat} {I J : World → Prop} (h : Stab B I) (k : Stab B J) : Stab B (fun W => I W ∧ J W) := fun A A' row hs hg hr => ⟨h A A' row hs.1 hg hr, k A A' row hs.2 hg hr⟩
theorem stab_pure (B : Nat) (p : Prop) : Stab B (fun _ => p) := fun _ _ _ h _ _ => h
theorem stab_ex {B : Nat} {α : Sort _} {I : α → World → Prop} (h : ∀ x, Stab B (I x)) : Stab B (fun W => ∃ x, I x W) := fun A A' row ⟨x, hx⟩ hg hr => ⟨x, h x A A' row hx hg hr⟩
theorem stab_cell (B : Nat) (a : Addr) (v : Value) : Stab B (fun W => W.cell? a = some v) := fun _ _ _ hs hg hr => cell_kept hs hg (fun r e => (hr r e).2)
theorem stab_free (B : Nat) (a : Addr) (v : Value) : Stab B (fun W => W.cell? a = some v ∧ W.frozen? a = false) := fun _ _ _ hs hg hr => ⟨cell_kept hs.1 hg (fun r e => (hr r e).2), (frozen_kept hs.1 hg (fun r e => (hr r e).2)).trans hs.2⟩
theorem stab_row (B : Nat) {base : Nat} {e : TypeId} {size : Nat} {v : Value} {n : Nat} {xs : List Value} : Stab B (fun W => W.ownsRow base e size v n xs) := by
  intro A A' row hs hg hr
  refine hs.kept hg ?_
  rcases hs.2 with ⟨rfl, _⟩ | ⟨g, cap, cur, rfl, _, hh, _⟩
  · exact .inl rfl
  · refine .inr (fun e' => ?_)
    obtain ⟨_, o, ho, hc⟩ := hr g e'.symm
    rw [hh] at ho
    cases ho
    cases hc
theorem stab_below {B n : Nat} {w : World} (hn : n ≤ w.heap.size) (hB : n ≤ B) : Stab B (fun W => Below n w W) :=
  fun _ _ _ hs hg hr => hs.grown hg (Nat.le_trans hn hs.size) (fun k e => Nat.le_trans hB (hr k e).1)
theorem stab_keepsTo {B s : Nat} {M : List Nat} {w0 : World} (hs : s ≤ w0.heap.size) (hB : s ≤ B) : Stab B (fun W => KeepsTo s M w0 W) :=
  fun _ _ _ hk hg hr => hk.grown (Nat.le_trans hs hk.size) hg (fun k e => .inr (Nat.le_trans hB (hr k e).1))
theorem Stab.mono {B B' : Nat} {J : World → Prop} (h : Stab B J) (hB : B ≤ B') : Stab B' J := fun A A' row hs hg hr => h A A' row hs hg (fun r e => ⟨Nat.le_trans hB (hr r e).1, (hr r e).2⟩)

theorem wp_rangeFunc {g : Operand} {ps : Array Tmp} {assign body : Code} {Q : Exit → Act → World → Prop} {a : Act} {w : World}
    (hro : F.round = none) {gf : Nat} {lb : Array Value} (hg : a.eval g = .func (.func gf) #[] lb) (hFg : F.fn gf) (eg : ∀ args w, (callFunc gf args).run P w = .ok (.enter gf args) w)
    {w0 : World} {M : List Nat} {xs : List (Array Value)} (hseq : Yields F P gf lb w0 M xs) (hk0 : Keeps M w0 w) (hM : ∀ k, k ∈ M → k < w.heap.size) (hps : ∀ x, x ∈ xs → x.size = ps.size)
    (I : Nat → List (Array Value) → World → Prop) (Ix : Code → World → Prop) (hI : ∀ s r, Stab w.heap.size (I s r)) (hIx : ∀ c, Stab w.heap.size (Ix c)) (h0 : ∀ s, w.heap.size ≤ s → I s xs w)
    (hround : ∀ l s x rest W, (∃ pre, xs = pre ++ x :: rest) → w.heap.size ≤ l → l < s → s ≤ W.heap.size → (∃ r, W.heap[l]? = some (.loop r)) → Keeps M w W → I s (x :: rest) W →
      assign.wpIn (F.inRound l) 8 P (Exit.then (fun a' W' => KeepsTo s M W W' ∧ ∃ C : World → Prop, Stab w.heap.size C ∧ C W' ∧
          ∀ W'', (∃ r, W''.heap[l]? = some (.loop r)) → W''.heap.size = W'.heap.size → C W'' → body.wpIn (F.inRound l) 8 P (bodyPost' s M (I s rest) Ix W'') a' W'') (fun _ _ _ => False))
        { tmps := (ps.zip x).foldl (fun t (p, v) => t.setIfInBounds p v) a.tmps, defers := [] } W)
    (hdone : ∀ D s W, w.heap.size ≤ D → D < s → I s [] W → W.heap[D]? = some (.deferred (some [])) → Q .normal { a with defers := { target := .collected D, args := #[] } :: a.defers } W)
    (hstop : ∀ D c W, w.heap.size ≤ D → Ix c W → W.heap[D]? = some (.deferred (some [])) → c.wpIn F 10 P Q { a with defers := { target := .collected D, args := #[] } :: a.defers } W) :
    (Code.rangeFunc g ps assign body).wpIn F 10 P Q a w := by
  refine wpIn_rangeFunc ?_
  intro fn hfn
  rw [hro]
  obtain ⟨rec, hrec⟩ : ∃ rec : LoopState → Option Code → Loop, rec = fun st pe => { state := st, pending := pe, fn, tmps := a.tmps, params := ps, assign, body, defers := w.heap.size } := ⟨_, rfl⟩
  obtain ⟨W1, hW1⟩ : ∃ W1, (w.alloc (.deferred (some []))).alloc (.loop (rec .ready none)) = W1 := ⟨_, rfl⟩
  have hsz1 : W1.heap.size = w.heap.size + 2 := by rw [← hW1]; simp
  have hL1 : W1.heap[w.heap.size + 1]? = some (.loop (rec .ready none)) := by
    rw [← hW1]; have := World.alloc_heap_new (w.alloc (.deferred (some []))) (.loop (rec .ready none)); rwa [World.size_alloc] at this
  have hK1 : W1.heap[w.heap.size]? = some (.deferred (some [])) := by
    rw [← hW1]; exact (Below.heap_alloc _ _ _ (by simp)).trans (World.alloc_heap_new w _)
  have hk1 : Keeps M w W1 := by rw [← hW1]; exact ((Keeps.refl M w).alloc _).alloc _
  have hMl : w.heap.size + 1 ∉ M ∧ w.heap.size ∉ M := ⟨fun e => by have := hM _ e; omega, fun e => by have := hM _ e; omega⟩
  have hstab : ∀ {B : Nat} {J : World → Prop} {st : LoopState} {pe : Option Code}, Stab w.heap.size J → w.heap.size + 2 ≤ B → Stab B (fun W => J W ∧ W.heap[w.heap.size + 1]? = some (.loop (rec st pe)) ∧ W.heap[w.heap.size]? = some (.deferred (some []))) := by
    intro B J st pe hJ hB A A' row hs hg' hr
    refine ⟨hJ A A' row hs.1 hg' (fun r e => ⟨by have := (hr r e).1; omega, (hr r e).2⟩), ?_, ?_⟩
    · refine (hg'.block _ (Array.getElem?_eq_some_iff.1 hs.2.1).1 (fun e => ?_)).trans hs.2.1
      have := (hr _ e.symm).1; omega
    · refine (hg'.block _ (Array.getElem?_eq_some_iff.1 hs.2.2).1 (fun e => ?_)).trans hs.2.2
      have := (hr _ e.symm).1; omega
  refine ⟨w.heap.size + 1, [{ target := .collected w.heap.size, args := #[] }], W1, { target := .fn (.func gf) lb, args := #[.func (.yield (w.heap.size + 1)) #[] #[]] }, W1, gf,
    #[.func (.yield (w.heap.size + 1)) #[] #[]] ++ lb, W1, ?_, ?_, ?_, ?_, fun _ => by omega, ?_⟩
  · rw [← hW1, hrec]; exact run_enterLoop_outer _ _ _ _ _
  · simp only [resolve, hg]
    simp [go_sem]
  · intro f' hf'; simp [Target.leads] at hf'; subst hf'; exact hFg
  · simp [invoke, go_sem, eg]
  · refine (hseq (w.heap.size + 1)
      (fun s r W => I s r W ∧ W.heap[w.heap.size + 1]? = some (.loop (rec .ready none)) ∧ W.heap[w.heap.size]? = some (.deferred (some [])))
      (fun W => ∃ c, Ix c W ∧ W.heap[w.heap.size + 1]? = some (.loop (rec .done (some c))) ∧ W.heap[w.heap.size]? = some (.deferred (some []))) (fun _ _ => False)
      W1 (hk0.trans hk1) (fun s r => hstab (hI s r) (by omega))
      (fun A A' row hs hg' hr => by obtain ⟨c, hc⟩ := hs; exact ⟨c, hstab (B := W1.heap.size) (hIx c) (by omega) A A' row hc hg' hr⟩)
      (fun s hs => ⟨by rw [← hW1]; exact (hI s xs).alloc _ ((hI s xs).alloc _ (h0 s (by omega))), hL1, hK1⟩)
      ?_).mono ?_
    · -- one round
      rintro s x rest W hpre hs1 hs2 hkW ⟨hi, hl, hd⟩
      have hpre' := hpre
      obtain ⟨pre, hpre⟩ := hpre
      have hy := run_yield (P := P) (args := x) hl (by rw [hrec]; exact hps x (by rw [hpre]; simp))
      rw [hrec] at hy
      have hkw : Keeps M w W := hk1.andTo hkW (by omega)
      refine ⟨fn, _, assign, body, hy, roundIn_of_wpIn hfn (wpIn_mono (hround _ s x rest W hpre' (by omega) (by omega) hs2 ⟨_, hl⟩ hkw hi) ?_)⟩
      clear hy
      intro e a' Wa hp
      cases e with
      | normal =>
        obtain ⟨hka, C, hC, hCa, hb⟩ := hp
        have hl2 := (hka.block _ (by omega) hMl.1).trans hl
        have hd2 := (hka.block _ (by omega) hMl.2).trans hd
        have hlt : w.heap.size + 1 < Wa.heap.size := (Array.getElem?_eq_some_iff.1 hl2).1
        refine ⟨_, run_beginRound hl2 (by rw [hrec]), ?_⟩
        have hl3 : (Wa.putObj (w.heap.size + 1) (.loop { rec .ready none with state := .busy })).heap[w.heap.size + 1]? = some (.loop { rec .ready none with state := .busy }) := World.putObj_heap_same hlt
        have hd3 : (Wa.putObj (w.heap.size + 1) (.loop { rec .ready none with state := .busy })).heap[w.heap.size]? = some (.deferred (some [])) := (World.putObj_heap_other (by omega)).trans hd2
        refine wpIn_mono (hb _ ⟨_, hl3⟩ World.putObj_size (hC.put _ hCa (by omega) hl2 rfl)) ?_
        have fin : ∀ (jump : Option Code) (W3 : World), KeepsTo s M (Wa.putObj (w.heap.size + 1) (.loop { rec .ready none with state := .busy })) W3 →
            (Instr.endRound (w.heap.size + 1) jump).run P W3 = .ok (.bool jump.isNone) (W3.putObj (w.heap.size + 1) (.loop (rec (if jump.isNone then .ready else .done) jump))) ∧
            W3.heap[w.heap.size + 1]? = some (.loop { rec .ready none with state := .busy }) ∧
            (W3.putObj (w.heap.size + 1) (.loop (rec (if jump.isNone then .ready else .done) jump))).heap[w.heap.size + 1]? = some (.loop (rec (if jump.isNone then .ready else .done) jump)) ∧
            (W3.putObj (w.heap.size + 1) (.loop (rec (if jump.isNone then .ready else .done) jump))).heap[w.heap.size]? = some (.deferred (some [])) := fun jump W3 hk3 => by
          have hl4 := (hk3.block _ (by omega) hMl.1).trans hl3
          have := run_endRound (P := P) jump hl4
          rw [hrec] at this ⊢
          exact ⟨this, by rw [hrec] at hl4; exact hl4, World.putObj_heap_same (Array.getElem?_eq_some_iff.1 hl4).1, (World.putObj_heap_other (by omega)).trans ((hk3.block _ (by omega) hMl.2).trans hd3)⟩
        rintro e a3 W3 hp
        cases e with
        | normal =>
          obtain ⟨hk3, hi3⟩ := hp
          obtain ⟨hr, hl4, hl5, hd5⟩ := fin none W3 hk3
          refine ⟨_, _, hr, .inl ⟨rfl, ⟨(hI s rest).put _ hi3 (by omega) hl4 rfl, hl5, hd5⟩, ?_⟩⟩
          refine ⟨?_, fun k hk hm => ?_⟩
          · have h1 := hka.size
            have h2 := hk3.size
            simp only [World.putObj_size] at h2 ⊢; omega
          · by_cases hkl : k = w.heap.size + 1
            · rw [hkl, hl5, hl]; rfl
            · rw [World.putObj_heap_other hkl, hk3.block k hk hm, World.putObj_heap_other hkl]
              exact hka.block k hk hm
        | ret =>
          obtain ⟨hk3, hi3⟩ := hp
          obtain ⟨hr, hl4, hl5, hd5⟩ := fin (some .ret) W3 hk3
          exact ⟨_, _, hr, .inr (.inl ⟨rfl, .ret, (hIx _).put _ hi3 (by omega) hl4 rfl, hl5, hd5⟩)⟩
        | exit id =>
          obtain ⟨hk3, hi3⟩ := hp
          obtain ⟨hr, hl4, hl5, hd5⟩ := fin (some (.exit id)) W3 hk3
          exact ⟨_, _, hr, .inr (.inl ⟨rfl, .exit id, (hIx _).put _ hi3 (by omega) hl4 rfl, hl5, hd5⟩)⟩
        | goto t =>
          obtain ⟨hk3, hi3⟩ := hp
          obtain ⟨hr, hl4, hl5, hd5⟩ := fin (some (.goto t)) W3 hk3
          exact ⟨_, _, hr, .inr (.inl ⟨rfl, .goto t, (hIx _).put _ hi3 (by omega) hl4 rfl, hl5, hd5⟩)⟩
        | panic ch => exact hp.elim
        | outgrown => exact hp.elim
      | exit id => exact hp.elim
      | goto t => exact hp.elim
      | ret => exact hp.elim
      | panic chain => exact hp.elim
      | outgrown => exact hp.elim
    · -- behind the iterator
      rintro e W2 (⟨⟨v, rfl⟩, (⟨s, hs, hi, hl, hd⟩ | ⟨c, hi, hl, hd⟩)⟩ | ⟨ch, _, hf⟩)
      · exact ⟨none, _, by have := run_endLoop (P := P) hl (by rw [hrec]; simp); rw [hrec] at this; exact this, hdone _ s _ (Nat.le_refl _) (by omega) ((hI s []).put _ hi (by omega) hl rfl) ((World.putObj_heap_other (by omega)).trans hd)⟩
      · exact ⟨some c, _, by have := run_endLoop (P := P) hl (by rw [hrec]; simp); rw [hrec] at this; exact this, hstop _ c _ (Nat.le_refl _) ((hIx c).put _ hi (by omega) hl rfl) ((World.putObj_heap_other (by omega)).trans hd)⟩
      · exact hf.elim
end Go.Proofs.Ythbbefkmnahnlaa
