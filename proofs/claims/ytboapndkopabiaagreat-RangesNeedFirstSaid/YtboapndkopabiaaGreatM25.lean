/- Lemmas and walks (RegU Own3 RegA Rng3). No statement is proved here. -/
import Derived.Test.YtboapndkopabiaaGreatM24
set_option linter.unusedVariables false
set_option linter.unusedSimpArgs false
namespace Go.Proofs.YtboapndkopabiaaGreat
namespace U
open Go.RowKit Go.Shelf
structure Keeps (s : Nat) (w w' : World) : Prop where
 size : w.heap.size ≤ w'.heap.size
 block : ∀ k, k < w.heap.size → k < s → w'.heap[k]? = w.heap[k]?
theorem Keeps.refl (s : Nat) (w : World) : Keeps s w w := ⟨Nat.le_refl _, fun _ _ _ => rfl⟩
theorem Keeps.trans {s : Nat} {w w' w'' : World} (h : Keeps s w w') (h' : Keeps s w' w'') : Keeps s w w'' :=
 ⟨Nat.le_trans h.size h'.size, fun k hk hm => (h'.block k (Nat.lt_of_lt_of_le hk h.size) hm).trans (h.block k hk hm)⟩
theorem Keeps.of_below {w w' : World} (h : Below w.heap.size w w') (s : Nat) : Keeps s w w' := ⟨h.size, fun k hk _ => h.block k hk⟩
theorem Keeps.of_one {w w' : World} {y s : Nat} (h : Go.Proofs.YtboapndkopabiaaGreat.Keeps [y] w w') (hy : s ≤ y) : Keeps s w w' := ⟨h.size, fun k hk hs => h.block k hk (by simp; omega)⟩
theorem stays_u {w : World} {b o : Nat} {u : Value} (h : w.cell? ⟨b, o, none⟩ = some u) : ∀ w', Keeps w.heap.size w.drew w' → w'.cell? ⟨b, o, none⟩ = some u := fun w' k => by
 have hl : b < w.heap.size := World.block_lt_of_cell? w _ h
 have := k.block b hl hl
 rw [← h]
 simp only [World.cell?, this]
 rfl
theorem stays_s {w : World} {b o s : Nat} {u : Value} (hs : w.heap.size = s) (h : w.cell? ⟨b, o, none⟩ = some u) : ∀ w', Keeps s w.drew w' → w'.cell? ⟨b, o, none⟩ = some u := by
 subst hs
 exact stays_u h
section
variable {F : Fence} {n : Nat} {P : Program} {Mr : Nat} {md : Region.Mode} {ops : Array Oper} {Q : Exit → Act → World → Prop}
def readAt (P : Program) (Mr : Nat) (o : Oper) (a : Act) (w : World) (v : Value) : Prop := ∀ w', Keeps Mr w w' → (execOp a.eval o).run P w' = .ok (.value v) w'
theorem readAt_of {P : Program} {Mr : Nat} {o : Oper} {a : Act} {w : World} {v : Value} (h : ∀ w', Keeps Mr w w' → ∀ Z : Result Next → Prop, Z (.ok (.value v) w') → Z ((execOp a.eval o).run P w')) : readAt P Mr o a w v :=
 fun w' hk => h w' hk (fun r => r = .ok (.value v) w') rfl
def YieldsE (P : Program) (Mr : Nat) (ops : Array Oper) (o : Oper) (v : Value) (a : Act) (w : World) : Prop :=
 (Region.wanted o (yielded ops a.tmps) = true ∧ readAt P Mr o a w v) ∨ (Region.wanted o (yielded ops a.tmps) = false ∧ v = undef)
theorem YieldsE.wpOpIn {i : Nat} {o : Oper} {v : Value} {a : Act} {w : World} (hm : Oper.mild o = true) (hi : ops[i]? = some o) (hy : YieldsE P Mr ops o v a w)
 {K : Act → World → Prop} (h : K (a.put o.dst v) w) : wpOpIn F n P ops Q i K a w := by
 unfold Go.wpOpIn
 simp only [hi]
 rcases hy with ⟨hw, hv⟩ | ⟨hw, rfl⟩
 · simp only [hw, if_true, Oper.wpIn, mild_sem hm, hv w (Keeps.refl _ _), Oper.uponIn]; exact ⟨mild_about hm w _, h⟩
 · simp only [hw, Bool.false_eq_true, if_false]; exact ⟨mild_about hm w _, h⟩
theorem YieldsE.of_same {o : Oper} {v : Value} {a a' : Act} {w : World} (hy : YieldsE P Mr ops o v a w) (he : execOp a'.eval o = execOp a.eval o)
 (hw : Region.wanted o (yielded ops a'.tmps) = Region.wanted o (yielded ops a.tmps)) : YieldsE P Mr ops o v a' w := by
 unfold YieldsE readAt at *; rw [he, hw]; exact hy
theorem YieldsE.later {o : Oper} {v : Value} {a : Act} {w w' : World} (hy : YieldsE P Mr ops o v a w) (hk : Keeps Mr w w') : YieldsE P Mr ops o v a w' := by
 rcases hy with ⟨hw, hv⟩ | h
 · exact .inl ⟨hw, fun w2 h2 => hv w2 (hk.trans h2)⟩
 · exact .inr h
theorem wpOpIn_putE {j : Nat} {oi oj : Oper} {v : Value} (hnd : ∀ c, oj.op ≠ .defer c) (hj : ops[j]? = some oj) (hap : oi.apart ops oj = true)
 (hsi : ∀ cs b, oi.op ≠ .select cs b) (hsj : ∀ cs b, oj.op ≠ .select cs b)
 (hQ : ∀ c a w, Q (.panic c) (a.put oi.dst v) w → Q (.panic c) a w) {K : Act → World → Prop} {a : Act} {w W : World}
 (hy : YieldsE P Mr ops oi v a W) (h : wpOpIn F n P ops Q j K (a.put oi.dst v) w) :
 wpOpIn F n P ops Q j (fun a' w' => YieldsE P Mr ops oi v a' W ∧ K (a'.put oi.dst v) w') a w := by
 obtain ⟨h1, h2, h3⟩ := Oper.apart_spec hap
 have keep : ∀ (a : Act), YieldsE P Mr ops oi v a W → ∀ u, YieldsE P Mr ops oi v (a.put oj.dst u) W := fun a hy u =>
  hy.of_same (execOp_put oi hsi a oj.dst u h3) (wanted_put oi a oj.dst u h3)
 unfold wpOpIn at *
 simp only [hj] at *
 rw [wanted_put oj a oi.dst v h1, about_put oj w a oi.dst v h1] at h
 split
 · rename_i hw
   simp only [hw, if_true] at h; unfold Oper.wpIn at *; rw [about_put oj w a oi.dst v h1] at h; refine ⟨h.1, ?_⟩; have h := h.2; rw [Oper.semAt_eq _ _ _ hnd, execOp_put oj hsj a oi.dst v h1] at h; rw [Oper.semAt_eq _ _ _ hnd]; generalize (execOp a.eval oj).run P w = r at *
   cases r with
   | ok x w' =>
     cases x <;> simp only [Oper.uponIn] at h ⊢
     case value u => exact ⟨keep a hy u, by rw [← Act.put_comm a v u h2]; exact h⟩
     case skip => exact ⟨keep a hy _, by rw [← Act.put_comm a v undef h2]; exact h⟩
     case defer d =>
      refine ⟨keep { a with defers := d :: a.defers } (hy.of_same rfl rfl) _, ?_⟩; rw [← Act.put_comm _ v undef h2, ← Act.put_defers]; exact h
     case enter f args =>
      refine ⟨h.1, CallsIn.mono h.2 fun e w'' he => ?_⟩
      cases e with
      | returned u => exact ⟨keep a hy u, by rw [← Act.put_comm a v u h2]; exact he⟩
      | panicked c => exact hQ _ _ _ he
      | outgrown => exact he
     case row row args => exact ⟨h.1, RowsIn.mono h.2 fun u w'' he => ⟨keep a hy u, by rw [← Act.put_comm a v u h2]; exact he⟩⟩
     case round l f tmps assign body =>
      refine ⟨h.1, RoundIn.mono h.2 fun e w'' he => ?_⟩
      cases e with
      | returned u => exact ⟨keep a hy u, by rw [← Act.put_comm a v u h2]; exact he⟩
      | panicked c => exact hQ _ _ _ he
      | outgrown => exact he
   | halt x w' =>
     cases x <;> simp only [Oper.uponIn] at h ⊢
     case panic u => exact hQ _ _ _ h
 · rename_i hw
   simp only [hw] at h; exact ⟨h.1, keep a hy _, by rw [← Act.put_comm a v undef h2]; exact h.2⟩
def wpAnyE (F : Fence) (n : Nat) (P : Program) (Mr : Nat) (md : Region.Mode) (ops : Array Oper) (Q : Exit → Act → World → Prop) (n0 : Nat) (L : Array Bool → Act → World → Prop) : Nat → Array Bool → Act → World → Prop
 | 0, listed, a, w => L listed a w
 | f + 1, listed, a, w =>
   Region.ready md ops listed ≠ [] ∧
   ∀ i ∈ Region.ready md ops listed, i < n0 ∧ wpOpIn F n P ops Q i (fun a' w' => Keeps Mr w w' ∧ wpAnyE F n P Mr md ops Q n0 L f (listed.setIfInBounds i true) a' w') a w
theorem wpAnyIn_of_E {n0 g : Nat} {L : Array Bool → Act → World → Prop} (hL : ∀ listed a w, L listed a w → wpAnyIn F n P md ops Q g listed a w) :
 ∀ (f : Nat) (listed : Array Bool) (a : Act) (w : World), wpAnyE F n P Mr md ops Q n0 L f listed a w → wpAnyIn F n P md ops Q (f + g) listed a w
 | 0, listed, a, w, h => by rw [Nat.zero_add]; exact hL _ _ _ h
 | f + 1, listed, a, w, h => by
   rw [show f + 1 + g = (f + g) + 1 by omega]; exact ⟨fun h0 => absurd h0 h.1, fun i hi => wpOpIn_mono (fun a' w' h' => wpAnyIn_of_E hL f _ a' w' h'.2) (h.2 i hi).2⟩
theorem wpAnyE_first {n0 i : Nat} {oi : Oper} {v : Value} {L : Array Bool → Act → World → Prop} (hm : Oper.mild oi = true) (hi : ops[i]? = some oi)
 (hsel : ∀ (j : Nat) (o : Oper) cs b, ops[j]? = some o → o.op ≠ .select cs b) (hdef : noDefer ops = true)
 (hQ : ∀ c a w, Q (.panic c) (a.put oi.dst v) w → Q (.panic c) a w)
 (ht : tailWaits md ops n0 = true) (hin : i < n0) (hdone : ∀ listed a w, L listed a w → ∀ j ∈ Region.ready md ops listed, n0 ≤ j) :
 ∀ (f : Nat) (listed : Array Bool) (a : Act) (w : World), HeadInv md ops n0 listed →
  (∀ j oj, ops[j]? = some oj → j ≠ i → listed.getD j true = false → (∀ e ∈ oj.after, Region.binds md e = true → e.on ≠ i) → oi.apart ops oj = true) →
  i ∈ Region.ready md ops listed → YieldsE P Mr ops oi v a w →
  wpAnyE F n P Mr md ops Q n0 L f (listed.setIfInBounds i true) (a.put oi.dst v) w → wpAnyE F n P Mr md ops Q n0 L (f + 1) listed a w := by
 intro f
 induction f with
 | zero =>
   intro listed a w inv _ hr hy H; have hun := (mem_ready.1 hr).1; refine ⟨fun h => (by rw [h] at hr; cases hr), fun j hj => ?_⟩; have hjn := not_tail ht inv hin hun j hj; refine ⟨hjn, ?_⟩
   by_cases hji : j = i
   · subst hji; exact hy.wpOpIn hm hi ⟨Keeps.refl _ _, H⟩
   · have := hdone _ _ _ H j (ready_mono hj hji)
     omega
 | succ f ih =>
   intro listed a w inv hfree hr hy H; have hun := (mem_ready.1 hr).1; refine ⟨fun h => (by rw [h] at hr; cases hr), fun j hj => ?_⟩; have hjn := not_tail ht inv hin hun j hj; refine ⟨hjn, ?_⟩
   by_cases hji : j = i
   · subst hji; exact hy.wpOpIn hm hi ⟨Keeps.refl _ _, H⟩
   · have h1 := (H.2 j (ready_mono hj hji)).2
     obtain ⟨hjun, oj, hoj, hall⟩ := mem_ready.1 hj
     have hnot : ∀ e ∈ oj.after, Region.binds md e = true → e.on ≠ i := fun e he hb heq => by
      have h1 := hall e he hb; rw [heq, getD_both hun] at h1; cases h1
     have h2 := wpOpIn_putE (W := w) (noDefer_spec hdef j oj hoj) hoj (hfree j oj hoj hji hjun hnot) (fun cs b => hsel i oi cs b hi) (fun cs b => hsel j oj cs b hoj) hQ hy h1
     have hfree' : ∀ k ok, ops[k]? = some ok → k ≠ i → (listed.setIfInBounds j true).getD k true = false →
      (∀ e ∈ ok.after, Region.binds md e = true → e.on ≠ i) → oi.apart ops ok = true := fun k ok hk hki hun hno => by
      refine hfree k ok hk hki ?_ hno
      by_cases hjk : j = k
      · subst hjk; exact hjun
      · rw [getD_set_ne true hjk] at hun; exact hun
     refine wpOpIn_mono (fun a' w' h3 => ⟨h3.2.1, ih (listed.setIfInBounds j true) a' w' (inv.set hj hjn) hfree' (ready_mono hr (Ne.symm hji)) (h3.1.later h3.2.1) ?_⟩) h2; rw [Array.setIfInBounds_comm _ _ hji]; exact h3.2.2
end
section
variable {F : Fence} {n : Nat} {P : Program} {Mr : Nat} {Q : Exit → Act → World → Prop}
def wpE (F : Fence) (n : Nat) (P : Program) (Mr : Nat) (ops : Array Oper) (Q : Exit → Act → World → Prop) (n0 f : Nat) (listed : Array Bool) (a : Act) (w : World) : Prop :=
 wpAnyE F n P Mr .any ops Q n0 (Lh F n P ops Q n0) f listed a w
theorem region_E (Mr : Nat) {ops : Array Oper} {id : Nat} {a : Act} {w : World} (n0 : Nat) (hm : P.follows .mixedOrders = true) (hok : startOk ops n0 = true)
 (h : wpE F n P Mr ops Q n0 n0 (Array.replicate ops.size false) a w.drew) : (Code.region id ops true).wpIn F n P Q a w := by
 simp only [startOk, Bool.and_eq_true, decide_eq_true_eq] at hok
 refine wpIn_region_any hm ?_
 have := wpAnyIn_of_E (g := ops.size - n0) (fun l a w hl => by obtain ⟨rfl, hL⟩ := hl; exact wpAnyIn_of_tail _ _ _ a w hok.2 hL) _ _ _ _ h
 rwa [show n0 + (ops.size - n0) = ops.size by omega] at this
theorem region_E_np (Mr : Nat) {ops : Array Oper} {id : Nat} {a : Act} {w : World} (n0 : Nat) (hm : P.follows .mixedOrders = true) (hok : startOk ops n0 = true)
 (h : wpE F n P Mr ops (npost Q) n0 n0 (Array.replicate ops.size false) a w.drew) : (Code.region id ops true).wpIn F n P Q a w :=
 wpIn_mono (region_E Mr n0 hm hok h) (fun e a w h => by cases e <;> first | exact h | exact h.elim)
theorem E_nil {ops : Array Oper} {n0 : Nat} {listed : Array Bool} {a : Act} {w : World} (g : Nat) (hl : listed = headAll ops n0) (hg : ops.size - n0 = g) (h : wpOpsIn F n P ops Q (List.range' n0 g) a w) : wpE F n P Mr ops Q n0 0 listed a w := ⟨hl, by rw [hg]; exact h⟩
theorem E_read {l : List Oper} {n0 f : Nat} {listed : Array Bool} {a : Act} {w : World} (i : Nat) {o : Oper} (hok : readOk l.toArray n0 listed i = true) (ho : l[i]? = some o) (hm : Oper.mild o = true)
 (hw : Region.wanted o (yielded l.toArray a.tmps) = true) (hQ : ∀ d v c a w, Q (.panic c) (a.put d v) w → Q (.panic c) a w)
 (h : ∃ v, (∀ w', Keeps Mr w w' → ∀ Z : Result Next → Prop, Z (.ok (.value v) w') → Z ((execOp a.eval o).run P w')) ∧ wpE F n P Mr l.toArray Q n0 f (listed.setIfInBounds i true) (a.put o.dst v) w) :
 wpE F n P Mr l.toArray Q n0 (f + 1) listed a w := by
 simp only [readOk, Bool.and_eq_true, decide_eq_true_eq] at hok
 obtain ⟨⟨⟨⟨⟨⟨⟨h1, h2⟩, h3⟩, h4⟩, h5⟩, h6⟩, h7⟩, h8⟩ := hok
 have ho' : l.toArray[i]? = some o := by rw [List.getElem?_toArray]; exact ho
 obtain ⟨v, hv, hx⟩ := h
 exact wpAnyE_first hm ho' (Region.noSelect_spec h5) h6 (fun c a w => hQ _ _ c a w) h7 h2 (fun l' a w hl j hj => by obtain ⟨rfl, _⟩ := hl; simpa using List.all_eq_true.1 h8 j hj) _ listed a w (inv_of_B h1) (Region.free_spec ho' h4) (by simpa using h3) (.inl ⟨hw, readAt_of hv⟩) hx
def AllE (F : Fence) (n : Nat) (P : Program) (Mr : Nat) (ops : Array Oper) (Q : Exit → Act → World → Prop) (n0 f : Nat) (listed : Array Bool) (a : Act) (w : World) : List Nat → Prop
 | [] => True
 | i :: r => (i < n0 ∧ wpOpIn F n P ops Q i (fun a' w' => Keeps Mr w w' ∧ wpE F n P Mr ops Q n0 f (listed.setIfInBounds i true) a' w') a w) ∧ AllE F n P Mr ops Q n0 f listed a w r
theorem E_all {ops : Array Oper} {n0 f : Nat} {listed : Array Bool} {a : Act} {w : World} (i : Nat) (r : List Nat) (hr : Region.ready .any ops listed = i :: r) (h : AllE F n P Mr ops Q n0 f listed a w (i :: r)) :
 wpE F n P Mr ops Q n0 (f + 1) listed a w := by
 refine ⟨by rw [hr]; simp, ?_⟩
 rw [hr]
 have : ∀ (l : List Nat), AllE F n P Mr ops Q n0 f listed a w l → ∀ j ∈ l, j < n0 ∧ wpOpIn F n P ops Q j (fun a' w' => Keeps Mr w w' ∧ wpE F n P Mr ops Q n0 f (listed.setIfInBounds j true) a' w') a w := by
  intro l
  induction l with
  | nil => intro _ j hj; cases hj
  | cons k r ih =>
    intro h j hj
    rcases List.mem_cons.1 hj with e | e
    · subst e; exact h.1
    · exact ih h.2 j e
 exact this _ h
theorem AllE_nil {ops : Array Oper} {n0 f : Nat} {listed : Array Bool} {a : Act} {w : World} : AllE F n P Mr ops Q n0 f listed a w [] := trivial
theorem AllE_cons {l : List Oper} {n0 f : Nat} {listed : Array Bool} {a : Act} {w : World} {i : Nat} {r : List Nat} {o : Oper} (hi : i < n0) (ho : l[i]? = some o) (hw : Region.wanted o (yielded l.toArray a.tmps) = true)
 (h : ∀ K : Act → World → Prop, (∀ a' w', Keeps Mr w w' ∧ wpE F n P Mr l.toArray Q n0 f (listed.setIfInBounds i true) a' w' → K a' w') → o.wpIn F n P a w K Q)
 (hr : AllE F n P Mr l.toArray Q n0 f listed a w r) : AllE F n P Mr l.toArray Q n0 f listed a w (i :: r) := by
 refine ⟨⟨hi, ?_⟩, hr⟩
 unfold wpOpIn
 rw [List.getElem?_toArray, ho]
 simp only [hw, if_true]
 exact h _ (fun _ _ h => h)
end
attribute [irreducible] wpE AllE YieldsE readAt
section
variable {F : Fence} {n : Nat} {P : Program} {Mr : Nat} {Q : Exit → Act → World → Prop}
theorem E_rd {l : List Oper} {n0 f : Nat} {listed listed' : Array Bool} {a a' : Act} {w : World} (i : Nat) {o : Oper} {v : Value} (h : U.wpE F n P Mr l.toArray (npost Q) n0 f listed' a' w)
 (hok : readOk l.toArray n0 listed i = true := by kernel_rfl) (ho : l[i]? = some o := by exact rfl) (hm : Oper.mild o = true := by exact rfl)
 (hw : Region.wanted o (yielded l.toArray a.tmps) = true := by (first | exact wanted_none rfl | (refine wanted_yes rfl ?_; (focus (simp [yielded]; done))) | fail))
 (hv : ∀ w', U.Keeps Mr w w' → ∀ Z : Result Next → Prop, Z (.ok (.value v) w') → Z ((execOp a.eval o).run P w') := by (intro w' hk Z hZ; simp only [execOp]; (repeat conv in Act.eval _ _ => whnf); (try go_simp); exact hZ))
 (ha : a.put o.dst v = a' := by ((try simp only [Act.put, List.setIfInBounds_toArray, List.set_cons_succ, List.set_cons_zero]); (first | done | exact rfl)))
 (hl : listed.setIfInBounds i true = listed' := by ((try simp only [Act.put, List.setIfInBounds_toArray, List.set_cons_succ, List.set_cons_zero]); (first | done | exact rfl))) :
 U.wpE F n P Mr l.toArray (npost Q) n0 (f + 1) listed a w :=
 U.E_read i hok ho hm hw np_panic ⟨v, hv, by rw [ha, hl]; exact h⟩
theorem E_al {l : List Oper} {n0 f : Nat} {listed : Array Bool} {a : Act} {w : World} (i : Nat) {o : Oper}
 (h : ∀ K : Act → World → Prop, (∀ a' w', U.Keeps Mr w w' ∧ U.wpE F n P Mr l.toArray Q n0 f (listed.setIfInBounds i true) a' w' → K a' w') → o.wpIn F n P a w K Q)
 (hr : Region.ready .any l.toArray listed = [i] := by kernel_rfl) (hi : i < n0 := by decide) (ho : l[i]? = some o := by exact rfl)
 (hw : Region.wanted o (yielded l.toArray a.tmps) = true := by (first | exact wanted_none rfl | (refine wanted_yes rfl ?_; (focus (simp [yielded]; done))) | fail)) :
 U.wpE F n P Mr l.toArray Q n0 (f + 1) listed a w :=
 U.E_all i [] hr (U.AllE_cons hi ho hw h U.AllE_nil)
theorem E_nl {ops : Array Oper} {n0 : Nat} {listed : Array Bool} {a : Act} {w : World} (g : Nat) (h : wpOpsIn F n P ops Q (List.range' n0 g) a w) (hl : listed = headAll ops n0 := by kernel_rfl) (hg : ops.size - n0 = g := by exact rfl) : U.wpE F n P Mr ops Q n0 0 listed a w := U.E_nil g hl hg h
end
end U
section
open Go.RowKit Go.Shelf
theorem OwnS.appendC {α : Type} [RepC α] {e : TypeId} {w : World} {M : List Nat} {base : Nat} {v : Value} {n : Nat} {xs ys : List α} {t ty : TypeId} {i : TypeInfo} {z : Value} (h : OwnS α e w M base v n xs) (hb : base ≤ w.heap.size) (ht : Tryz.prog.underlying t = some (.slice e)) (hi : Tryz.prog.info? e = some i) (hz : i.zero = some z) (hs : i.size = Rep.sz α) (hzs : z.cells.size = Rep.sz α) (hbt : i.bytes ≤ 200)
 {A : Option Addr} {m c : Nat} (hy : Sl α w (ownL v ++ M) A m c ys) (hn : n ≤ 100000) (hm : m ≤ 100000) :
 ∃ v' w', (Builtin.append_ #[t, t] ty #[v, .slice A m c]).run Tryz.prog w = .ok v' w' ∧ OwnS α e w' M base v' (n + m) (xs ++ ys) ∧ w.grownBy w' v.ownBlock ∧ Keeps (ownL v) w w' ∧
  ∀ (A' : Option Addr) (m' c' : Nat) (zs : List α), Sl α w (ownL v ++ M) A' m' c' zs → Sl α w' (ownL v' ++ M) A' m' c' zs := by
 have hnb : (n + m) * i.bytes ≤ 140737488355328 := Nat.le_trans (Nat.mul_le_mul (show n + m ≤ 200000 by omega) hbt) (by decide)
 obtain ⟨v', w', r1, r2, r3, r4⟩ := h.appendN (ty := ty) (t := t) hb ht hi hz hs hzs hy hnb (by omega)
 have kp : Keeps (ownL v) w w' := ⟨r3.size, fun k hk hm => r3.block k hk (fun e => hm (mem_ownL.2 e.symm))⟩
 have kp2 : Keeps (ownL v ++ M) w w' := kp.mono (fun x hx => List.mem_append_left _ hx)
 refine ⟨v', w', r1, r2, r3, kp, fun A' m' c' zs hz => ?_⟩
 rcases r4 with e5 | e5
 · have : ownL v' = ownL v := by unfold ownL; rw [e5]
   rw [this]; exact hz.keep kp2
 · have h3 := (hz.more (b := w.heap.size) (Nat.le_refl _)).keep (w' := w') (kp.mono (fun x hx => List.mem_cons_of_mem _ (List.mem_append_left _ hx)))
   refine h3.less (fun q hq => ?_)
   rcases List.mem_append.1 hq with hq | hq
   · rw [mem_ownL, e5] at hq; rw [← Option.some.inj hq]; exact List.mem_cons_self
   · exact List.mem_cons_of_mem _ (List.mem_append_right _ hq)
theorem own_put {w : World} {base : Nat} {e : TypeId} {size g n cap : Nat} {cs : List Value} (h : w.ownsRow base e size (.slice (some ⟨g, 0, none⟩) n cap) n cs) (k : Nat) (u : Value) (hk : k < n * size) :
 (w.setCell ⟨g, k, none⟩ u).ownsRow base e size (.slice (some ⟨g, 0, none⟩) n cap) n (cs.set k u) := by
 refine ⟨by rw [List.length_set]; exact h.1, ?_⟩
 rcases h.2 with ⟨e0, _⟩ | ⟨g', cap', cur, e0, hb, hh, hnc, hcm, hsz, htk⟩
 · cases e0
 · cases e0
   refine .inr ⟨g, cap, cur.setIfInBounds k u, rfl, hb, ?_, hnc, hcm, by simpa using hsz, ?_⟩
   · simp only [World.setCell, Array.getElem?_modify, if_true]
     rw [hh]; simp only [Option.map_some, Option.isSome_none, Bool.false_eq_true, if_false]
   · rw [← htk, Array.toList_setIfInBounds, List.take_set]
theorem QC.keep {V V' : World} {M : List Nat} {r : Rt} {p q : Bool} {A B : Option Addr} {n c m d : Nat} (h : QC V M r p q A n c B m d) (k : Keeps M V V') : QC V' M r p q A n c B m d := ⟨⟨h.num.neg, h.num.sl.keep k⟩, ⟨h.den.neg, h.den.sl.keep k⟩⟩
theorem OwnS.setQ {w : World} {M : List Nat} {base g n cap : Nat} {xs : List Rt} {x : Rt} {p q : Bool} {A B : Option Addr} {n1 c1 m1 d1 : Nat} (h : OwnQ w M base (.slice (some ⟨g, 0, none⟩) n cap) n xs) {k : Nat} (hk : k < n) (hx : QC w (ownL (.slice (some ⟨g, 0, none⟩) n cap) ++ M) x p q A n1 c1 B m1 d1) :
 ∃ w', (((w.setCell ⟨g, k * 4, none⟩ (.bool p)).setCell ⟨g, k * 4 + 1, none⟩ (.slice A n1 c1)).setCell ⟨g, k * 4 + 2, none⟩ (.bool q)).setCell ⟨g, k * 4 + 3, none⟩ (.slice B m1 d1) = w' ∧ OwnQ w' M base (.slice (some ⟨g, 0, none⟩) n cap) n (xs.set k x) ∧ Keeps [g] w w' := by
 have kp := ((((Keeps.refl [g] w).setCell (p := ⟨g, k * 4, none⟩) (.inl (by simp)) (.bool p)).setCell (p := ⟨g, k * 4 + 1, none⟩) (.inl (by simp)) (.slice A n1 c1)).setCell (p := ⟨g, k * 4 + 2, none⟩) (.inl (by simp)) (.bool q)).setCell (p := ⟨g, k * 4 + 3, none⟩) (.inl (by simp)) (.slice B m1 d1)
 obtain ⟨cs, h1, h2⟩ := h.ex
 have hz : Rep.sz RatR = 4 := rfl
 rw [hz] at h1 h2
 have hl : xs.length = n := by have := h.len; simpa using this
 have hcl := h1.1
 have hkn : k * 4 + 4 ≤ n * 4 := by omega
 have r := own_put (own_put (own_put (own_put h1 (k * 4) (.bool p) (by omega)) (k * 4 + 1) (.slice A n1 c1) (by omega)) (k * 4 + 2) (.bool q) (by omega)) (k * 4 + 3) (.slice B m1 d1) (by omega)
 have hown : ownL (.slice (some ⟨g, 0, none⟩) n cap) = [g] := rfl
 generalize (((w.setCell ⟨g, k * 4, none⟩ (.bool p)).setCell ⟨g, k * 4 + 1, none⟩ (.slice A n1 c1)).setCell ⟨g, k * 4 + 2, none⟩ (.bool q)).setCell ⟨g, k * 4 + 3, none⟩ (.slice B m1 d1) = w' at kp r
 have kp2 : Keeps (ownL (.slice (some ⟨g, 0, none⟩) n cap) ++ M) w w' := kp.mono (fun x hx => by rw [hown]; exact List.mem_append_left _ hx)
 refine ⟨w', rfl, ⟨by simpa using h.len, _, r, fun j y hy => ?_⟩, kp⟩
 rw [hz]
 have hcs : cs.length = n * 4 := h1.1
 by_cases hj : j = k
 · subst hj
   have e : y = encQ x := by
    rw [List.getElem?_map, List.getElem?_set_self (by omega)] at hy; exact (Option.some.inj hy).symm
   subst e; have hx' := hx.keep kp2; refine ⟨[.bool p, .slice A n1 c1, .bool q, .slice B m1 d1], ?_, fun i u hu => ?_⟩
   · have e1 : (encQ x).1.1 = p := hx.num.neg
     have e2 : (encQ x).2.1 = q := hx.den.neg; rw [← e1, ← e2]; exact rat_rd (x := encQ x) hx'.num.sl hx'.den.sl
   · match i, hu with
     | 0, hu => simp only [List.getElem?_cons_zero, Option.some.injEq] at hu; subst hu; simp [List.getElem?_set]; omega
     | 1, hu => simp only [List.getElem?_cons_zero, List.getElem?_cons_succ, Option.some.injEq] at hu; subst hu; simp [List.getElem?_set]; omega
     | 2, hu => simp only [List.getElem?_cons_zero, List.getElem?_cons_succ, Option.some.injEq] at hu; subst hu; simp [List.getElem?_set]; omega
     | 3, hu => simp only [List.getElem?_cons_zero, List.getElem?_cons_succ, Option.some.injEq] at hu; subst hu; simp [List.getElem?_set]; omega
     | i + 4, hu => simp at hu
 · have hy' : (xs.map encQ)[j]? = some y := by
    rw [List.getElem?_map] at hy ⊢
    rwa [List.getElem?_set_ne (fun e => hj e.symm)] at hy
   obtain ⟨es, a, b⟩ := h2 j y hy'; have hes := Rep.len a; rw [hz] at hes; refine ⟨es, Rep.keep a kp2, fun i u hu => ?_⟩; have hi := (List.getElem?_eq_some_iff.1 hu).1; rw [List.getElem?_set_ne (by omega), List.getElem?_set_ne (by omega), List.getElem?_set_ne (by omega), List.getElem?_set_ne (by omega)]; exact b i u hu
theorem U.Keeps.of_own {w w' : World} {v : Value} {s : Nat} (h : Go.Proofs.YtboapndkopabiaaGreat.Keeps (ownL v) w w') (hs : ∀ q, v.ownBlock = some q → s ≤ q) : U.Keeps s w w' :=
 ⟨h.size, fun k hk hks => h.block k hk (fun hm => by have := hs k (mem_ownL.1 hm); omega)⟩
end
section
open Go.RowKit Go.Shelf
section
variable {F : Fence} {n : Nat} {P : Program} {Mr : List Nat} {Q : Exit → Act → World → Prop}
def Arm (F : Fence) (n : Nat) (P : Program) (Mr : List Nat) (ops : Array Oper) (Q : Exit → Act → World → Prop) (n0 f : Nat) (listed : Array Bool) (a : Act) (w : World) (i : Nat) : Prop :=
 (Region.ready .any ops listed).contains i = true → i < n0 ∧ wpOpIn F n P ops Q i (fun a' w' => Keeps Mr w w' ∧ wpE F n P Mr ops Q n0 f (listed.setIfInBounds i true) a' w') a w
def Arms (F : Fence) (n : Nat) (P : Program) (Mr : List Nat) (ops : Array Oper) (Q : Exit → Act → World → Prop) (n0 f : Nat) (listed : Array Bool) (a : Act) (w : World) (L : List Nat) : Prop := ∀ i, i ∈ L → Arm F n P Mr ops Q n0 f listed a w i
theorem Arm.no {ops : Array Oper} {n0 f i : Nat} {listed : Array Bool} {a : Act} {w : World} (h : (Region.ready .any ops listed).contains i = false := by decide +kernel) : Arm F n P Mr ops Q n0 f listed a w i := fun e => by rw [h] at e; cases e
theorem Arm.mk {l : List Oper} {n0 f : Nat} {listed : Array Bool} {a : Act} {w : World} (i : Nat) {o : Oper}
 (h : ∀ K : Act → World → Prop, (∀ a' w', Keeps Mr w w' ∧ wpE F n P Mr l.toArray Q n0 f (listed.setIfInBounds i true) a' w' → K a' w') → o.wpIn F n P a w K Q) (hi : i < n0 := by decide) (ho : l[i]? = some o := by exact rfl)
 (hw : Region.wanted o (yielded l.toArray a.tmps) = true := by (first | exact wanted_none rfl | (refine wanted_yes rfl ?_; (focus (simp [yielded]; done))) | fail)) : Arm F n P Mr l.toArray Q n0 f listed a w i := fun _ => by
 refine ⟨hi, ?_⟩
 unfold wpOpIn
 rw [List.getElem?_toArray, ho]
 simp only [hw, if_true]
 exact h _ (fun _ _ h => h)
section
variable {ops : Array Oper} {n0 f : Nat} {listed : Array Bool} {a : Act} {w : World}
theorem A_n : Arms F n P Mr ops Q n0 f listed a w [] := fun _ h => by cases h
theorem A_c {i : Nat} {L : List Nat} (h : Arm F n P Mr ops Q n0 f listed a w i) (r : Arms F n P Mr ops Q n0 f listed a w L) : Arms F n P Mr ops Q n0 f listed a w (i :: L) := fun j hj => by
 rcases List.mem_cons.1 hj with e | e
 · subst e; exact h
 · exact r j e
theorem E_by (L : List Nat) (h : Arms F n P Mr ops Q n0 f listed a w L) (hs : ((Region.ready .any ops listed).all fun i => L.contains i) = true := by kernel_rfl) (hne : (Region.ready .any ops listed).isEmpty = false := by kernel_rfl) : wpE F n P Mr ops Q n0 (f + 1) listed a w := by
 obtain ⟨i, r, hr⟩ : ∃ i r, Region.ready .any ops listed = i :: r := by
  cases hc : Region.ready .any ops listed with
  | nil => rw [hc] at hne; cases hne
  | cons i r => exact ⟨i, r, rfl⟩
 have key : ∀ j, j ∈ i :: r → j < n0 ∧ wpOpIn F n P ops Q j (fun a' w' => Keeps Mr w w' ∧ wpE F n P Mr ops Q n0 f (listed.setIfInBounds j true) a' w') a w := fun j hj => by
  have h1 := List.all_eq_true.1 hs j (by rw [hr]; exact hj); exact h j (by simpa using h1) (by rw [hr]; simpa using hj)
 unfold wpE at key ⊢
 refine ⟨by rw [hr]; simp, ?_⟩
 rw [hr]
 exact key
end
end
attribute [irreducible] Arm Arms
namespace U
section
variable {F : Fence} {n : Nat} {P : Program} {Mr : Nat} {Q : Exit → Act → World → Prop}
def Arm (F : Fence) (n : Nat) (P : Program) (Mr : Nat) (ops : Array Oper) (Q : Exit → Act → World → Prop) (n0 f : Nat) (listed : Array Bool) (a : Act) (w : World) (i : Nat) : Prop :=
 (Region.ready .any ops listed).contains i = true → i < n0 ∧ wpOpIn F n P ops Q i (fun a' w' => U.Keeps Mr w w' ∧ U.wpE F n P Mr ops Q n0 f (listed.setIfInBounds i true) a' w') a w
def Arms (F : Fence) (n : Nat) (P : Program) (Mr : Nat) (ops : Array Oper) (Q : Exit → Act → World → Prop) (n0 f : Nat) (listed : Array Bool) (a : Act) (w : World) (L : List Nat) : Prop := ∀ i, i ∈ L → Arm F n P Mr ops Q n0 f listed a w i
theorem Arm.no {ops : Array Oper} {n0 f i : Nat} {listed : Array Bool} {a : Act} {w : World} (h : (Region.ready .any ops listed).contains i = false := by decide +kernel) : Arm F n P Mr ops Q n0 f listed a w i := fun e => by rw [h] at e; cases e
theorem Arm.mk {l : List Oper} {n0 f : Nat} {listed : Array Bool} {a : Act} {w : World} (i : Nat) {o : Oper}
 (h : ∀ K : Act → World → Prop, (∀ a' w', U.Keeps Mr w w' ∧ U.wpE F n P Mr l.toArray Q n0 f (listed.setIfInBounds i true) a' w' → K a' w') → o.wpIn F n P a w K Q) (hi : i < n0 := by decide) (ho : l[i]? = some o := by exact rfl)
 (hw : Region.wanted o (yielded l.toArray a.tmps) = true := by (first | exact wanted_none rfl | (refine wanted_yes rfl ?_; (focus (simp [yielded]; done))) | fail)) : Arm F n P Mr l.toArray Q n0 f listed a w i := fun _ => by
 refine ⟨hi, ?_⟩
 unfold wpOpIn
 rw [List.getElem?_toArray, ho]
 simp only [hw, if_true]
 exact h _ (fun _ _ h => h)
section
variable {ops : Array Oper} {n0 f : Nat} {listed : Array Bool} {a : Act} {w : World}
theorem A_n : Arms F n P Mr ops Q n0 f listed a w [] := fun _ h => by cases h
theorem A_c {i : Nat} {L : List Nat} (h : Arm F n P Mr ops Q n0 f listed a w i) (r : Arms F n P Mr ops Q n0 f listed a w L) : Arms F n P Mr ops Q n0 f listed a w (i :: L) := fun j hj => by
 rcases List.mem_cons.1 hj with e | e
 · subst e; exact h
 · exact r j e
theorem E_by (L : List Nat) (h : Arms F n P Mr ops Q n0 f listed a w L) (hs : ((Region.ready .any ops listed).all fun i => L.contains i) = true := by kernel_rfl) (hne : (Region.ready .any ops listed).isEmpty = false := by kernel_rfl) : U.wpE F n P Mr ops Q n0 (f + 1) listed a w := by
 obtain ⟨i, r, hr⟩ : ∃ i r, Region.ready .any ops listed = i :: r := by
  cases hc : Region.ready .any ops listed with
  | nil => rw [hc] at hne; cases hne
  | cons i r => exact ⟨i, r, rfl⟩
 have key : ∀ j, j ∈ i :: r → j < n0 ∧ wpOpIn F n P ops Q j (fun a' w' => U.Keeps Mr w w' ∧ U.wpE F n P Mr ops Q n0 f (listed.setIfInBounds j true) a' w') a w := fun j hj => by
  have h1 := List.all_eq_true.1 hs j (by rw [hr]; exact hj); exact h j (by simpa using h1) (by rw [hr]; simpa using hj)
 unfold U.wpE at key ⊢
 refine ⟨by rw [hr]; simp, ?_⟩
 rw [hr]
 exact key
end
end
attribute [irreducible] Arm Arms
end U
theorem Fr.lst {w W : World} {L : List (Nat × List Value)} {b : Nat} {vs : List Value} (h : Fr w W (L ++ [(b, vs)])) : b < W.heap.size := h.lt b vs (by simp)
end
section
open Go.RowKit Go.Shelf
attribute [local go_sem] Oper.semAt_some
section
variable {M : List Nat} {A B A1 A2 : Option Addr} {n c m l n1 c1 n2 c2 : Nat} {ins regs : List Rg} {op a b x3 x4 : Int} {r : RatR} {p q : Bool} {w : World}
set_option maxRecDepth 20000 in
set_option maxHeartbeats 8000000 in
theorem stp6_any (hM : Bel M w) (hx : XC w M r p q A1 n1 c1 A2 n2 c2) (hl : SlG w M B m l regs) (ha : belowB a m = true) (hb : belowB b m = true) (oa : OkG (regG regs a)) (ob : OkG (regG regs b)) :
 Calls Tryz.prog 68 #[.agg #[.int .i64 op, .int .i64 a, .int .i64 b, .int .i64 x3, .int .i64 x4, .bool p, .slice A1 n1 c1, .bool q, .slice A2 n2 c2], .slice B m l] w (GRet w M (minG (regG regs a) (regG regs b))) := by
 refine wid ?_
 obtain ⟨ka, rfl, hka⟩ := below_nat ha
 obtain ⟨kb, rfl, hkb⟩ := below_nat hb
 obtain ⟨W1, hW1, F1⟩ := nam (((Fr.nil w).a w.heap.size [.int .i64 op, .int .i64 (ka : Int), .int .i64 (kb : Int), .int .i64 x3, .int .i64 x4, .bool p, .slice A1 n1 c1, .bool q, .slice A2 n2 c2] 55).a8 (w.heap.size + 1) 33)
 have FO := F1
 refine op1 FO ?_; intros
 have hx1 := (hx.more (k := w.heap.size + 1) (by omega)).go F1.bl
 have hM1 : Bel ((w.heap.size + 1) :: M) W1 := (hM.le F1.bl.size).cons (F1.ltn 1)
 have F := Hd F1
 have hins := F1.nth 0
 have hz := F1.nth 1
 clear hx hM F1 FO
 have hl1 : SlG W1 ((w.heap.size + 1) :: M) B m l regs := (hl.more (b := w.heap.size + 1) (by omega)).go F.out.bl
 have hsm := hl1.small
 clear hl
 obtain ⟨b3, o3, p3, q3, A3, n3, c3, B3, m3, d3, p4, q4, A4, n4, c4, B4, m4, d4, rfl, ⟨h0, h1, h2, h3⟩, ⟨h4, h5, h6, h7⟩, alo, ahi⟩ := hl1.at_ hka
 obtain ⟨b5, o5, p5, q5, A5, n5, c5, B5, m5, d5, p6, q6, A6, n6, c6, B6, m6, d6, e0, ⟨k0, k1, k2, k3⟩, ⟨k4, k5, k6, k7⟩, blo, bhi⟩ := hl1.at_ hkb
 obtain ⟨rfl, rfl⟩ : b3 = b5 ∧ o3 = o5 := by simpa using e0
 have X := Hd5 alo.drew ahi.drew blo.drew bhi.drew hM1
 have HO := Hd2 oa ob
 have v0 := stays_drew h0
 have v1 := stays_drew h1
 have v2 := stays_drew h2
 have v3 := stays_drew h3
 have v4 := stays_drew h4
 have v5 := stays_drew h5
 have v6 := stays_drew h6
 have v7 := stays_drew h7
 have x0 := stays_drew k0
 have x1 := stays_drew k1
 have x2 := stays_drew k2
 have x3' := stays_drew k3
 have x4' := stays_drew k4
 have x5 := stays_drew k5
 have x6 := stays_drew k6
 have x7 := stays_drew k7
 have v8 := stays_drew (hins 1 _ rfl)
 have v9 := stays_drew (hins 2 _ rfl)
 clear hx1 hM1 alo ahi blo bhi h0 h1 h2 h3 h4 h5 h6 h7 k0 k1 k2 k3 k4 k5 k6 k7 e0 oa ob ha hb hins hz hl1
 refine ent Tryz.func68 rfl Tryz.ntmps68 ?_
 gi_wp2
 refine region_E_np [] 27 (by kernel_rfl) (by kernel_rfl) ?_
 refine E_rd 0 ?_; refine E_rd 1 ?_; refine E_rd 2 ?_; refine E_rd 3 ?_; refine E_rd 4 ?_; refine E_rd 5 ?_; refine E_rd 6 ?_; refine E_rd 7 ?_; refine E_rd 8 ?_; refine E_rd 9 ?_; refine E_rd 10 ?_; refine E_rd 11 ?_
 refine E_rd 13 ?_; refine E_rd 14 ?_; refine E_rd 15 ?_; refine E_rd 16 ?_; refine E_rd 17 ?_; refine E_rd 18 ?_; refine E_rd 19 ?_; refine E_rd 20 ?_; refine E_rd 21 ?_; refine E_rd 22 ?_; refine E_rd 23 ?_; refine E_rd 24 ?_
 refine E_al 12 fun K hK => ?_; gi_wp2
 refine Cm (first_less (M := (w.heap.size + 1) :: M) (a := (regG regs ka).1) (b := (regG regs kb).1) (X.out.2.2.2.2.le (w' := W1.drew) (Nat.le_refl _)) X.out.1.qw X.out.2.2.1.qw HO.out.1.1.1 HO.out.2.1.1 (HO.out.1.1.2.fine HO.out.2.1.2)) ?_
 rintro e w2 ⟨u2, rfl, z2, hb2⟩
 obtain ⟨p7, q7, A7, n7, c7, B7, m7, d7, rfl, qc7⟩ := QC.of z2
 have G2 := Hd2 qc7 hb2
 refine hK _ _ ⟨?_, ?_⟩; clear hK K
 · exact Keeps.of_below hb2 []
 refine lit ?_
 clear z2 hb2 qc7
 refine E_al 25 fun K hK => ?_; gi_wp2
 refine Cm (first_less (M := (w.heap.size + 1) :: M) (a := (regG regs ka).2) (b := (regG regs kb).2) (X.out.2.2.2.2.le G2.out.2.size) (X.out.2.1.go G2.out.2).qw (X.out.2.2.2.1.go G2.out.2).qw HO.out.1.2.1 HO.out.2.2.1 (HO.out.1.2.2.fine HO.out.2.2.2)) ?_
 rintro e w5 ⟨u5, rfl, z5, hb5⟩
 obtain ⟨p8, q8, A8, n8, c8, B8, m8, d8, rfl, qc8⟩ := QC.of z5
 have F5 := F.out.drew.go (G2.out.2.trans (hb5.mono G2.out.2.size))
 refine op1 F5 ?_; intros
 have G5 := Hd3 F5 (G2.out.1.go hb5) qc8
 refine hK _ _ ⟨?_, ?_⟩; clear hK K
 · exact Keeps.of_below hb5 []
 refine lit ?_
 clear z5 hb5 qc8 F5
 refine E_rd 26 ?_
 refine E_nl 1 ?_; refine tls fun K hK K' hK' => ?_; gi_wp2; refine tail_nil _ ?_; simp only [npost]; gi_wp2
 have hz := G5.out.1.nth 1
 obtain ⟨wF, hwF, ⟨t0, t1, t2, t3⟩, ⟨t4, t5, t6, t7⟩, hG, bF⟩ := fin8 (M := M) (hz 0 _ rfl) (hz 1 _ rfl) (hz 2 _ rfl) (hz 3 _ rfl) (hz 4 _ rfl) (hz 5 _ rfl) (hz 6 _ rfl) (hz 7 _ rfl) (x := minG (regG regs ka) (regG regs kb)) G5.out.2.1 G5.out.2.2 G5.out.1.bl (by omega)
 rw [hwF]
 exact ⟨rfl, .agg #[.bool p7, .slice A7 n7 c7, .bool q7, .slice B7 m7 d7, .bool p8, .slice A8 n8 c8, .bool q8, .slice B8 m8 d8], by simp [results, go_sem, t0, t1, t2, t3, t4, t5, t6, t7], _, rfl, hG, bF⟩
set_option maxRecDepth 20000 in
set_option maxHeartbeats 8000000 in
theorem stp7_any (hM : Bel M w) (hx : XC w M r p q A1 n1 c1 A2 n2 c2) (hl : SlG w M B m l regs) (ha : belowB a m = true) (hb : belowB b m = true) (oa : OkG (regG regs a)) (ob : OkG (regG regs b)) :
 Calls Tryz.prog 70 #[.agg #[.int .i64 op, .int .i64 a, .int .i64 b, .int .i64 x3, .int .i64 x4, .bool p, .slice A1 n1 c1, .bool q, .slice A2 n2 c2], .slice B m l] w (GRet w M (maxG (regG regs a) (regG regs b))) := by
 refine wid ?_
 obtain ⟨ka, rfl, hka⟩ := below_nat ha
 obtain ⟨kb, rfl, hkb⟩ := below_nat hb
 obtain ⟨W1, hW1, F1⟩ := nam (((Fr.nil w).a w.heap.size [.int .i64 op, .int .i64 (ka : Int), .int .i64 (kb : Int), .int .i64 x3, .int .i64 x4, .bool p, .slice A1 n1 c1, .bool q, .slice A2 n2 c2] 55).a8 (w.heap.size + 1) 33)
 have FO := F1
 refine op1 FO ?_; intros
 have hx1 := (hx.more (k := w.heap.size + 1) (by omega)).go F1.bl
 have hM1 : Bel ((w.heap.size + 1) :: M) W1 := (hM.le F1.bl.size).cons (F1.ltn 1)
 have F := Hd F1
 have hins := F1.nth 0
 have hz := F1.nth 1
 clear hx hM F1 FO
 have hl1 : SlG W1 ((w.heap.size + 1) :: M) B m l regs := (hl.more (b := w.heap.size + 1) (by omega)).go F.out.bl
 have hsm := hl1.small
 clear hl
 obtain ⟨b3, o3, p3, q3, A3, n3, c3, B3, m3, d3, p4, q4, A4, n4, c4, B4, m4, d4, rfl, ⟨h0, h1, h2, h3⟩, ⟨h4, h5, h6, h7⟩, alo, ahi⟩ := hl1.at_ hka
 obtain ⟨b5, o5, p5, q5, A5, n5, c5, B5, m5, d5, p6, q6, A6, n6, c6, B6, m6, d6, e0, ⟨k0, k1, k2, k3⟩, ⟨k4, k5, k6, k7⟩, blo, bhi⟩ := hl1.at_ hkb
 obtain ⟨rfl, rfl⟩ : b3 = b5 ∧ o3 = o5 := by simpa using e0
 have X := Hd5 alo.drew ahi.drew blo.drew bhi.drew hM1
 have HO := Hd2 oa ob
 have v0 := stays_drew h0
 have v1 := stays_drew h1
 have v2 := stays_drew h2
 have v3 := stays_drew h3
 have v4 := stays_drew h4
 have v5 := stays_drew h5
 have v6 := stays_drew h6
 have v7 := stays_drew h7
 have x0 := stays_drew k0
 have x1 := stays_drew k1
 have x2 := stays_drew k2
 have x3' := stays_drew k3
 have x4' := stays_drew k4
 have x5 := stays_drew k5
 have x6 := stays_drew k6
 have x7 := stays_drew k7
 have v8 := stays_drew (hins 1 _ rfl)
 have v9 := stays_drew (hins 2 _ rfl)
 clear hx1 hM1 alo ahi blo bhi h0 h1 h2 h3 h4 h5 h6 h7 k0 k1 k2 k3 k4 k5 k6 k7 e0 oa ob ha hb hins hz hl1
 refine ent Tryz.func70 rfl Tryz.ntmps70 ?_
 gi_wp2
 refine region_E_np [] 27 (by kernel_rfl) (by kernel_rfl) ?_
 refine E_rd 0 ?_; refine E_rd 1 ?_; refine E_rd 2 ?_; refine E_rd 3 ?_; refine E_rd 4 ?_; refine E_rd 5 ?_; refine E_rd 6 ?_; refine E_rd 7 ?_; refine E_rd 8 ?_; refine E_rd 9 ?_; refine E_rd 10 ?_; refine E_rd 11 ?_
 refine E_rd 13 ?_; refine E_rd 14 ?_; refine E_rd 15 ?_; refine E_rd 16 ?_; refine E_rd 17 ?_; refine E_rd 18 ?_; refine E_rd 19 ?_; refine E_rd 20 ?_; refine E_rd 21 ?_; refine E_rd 22 ?_; refine E_rd 23 ?_; refine E_rd 24 ?_
 refine E_al 12 fun K hK => ?_; gi_wp2
 refine Cm (first_more (M := (w.heap.size + 1) :: M) (a := (regG regs ka).1) (b := (regG regs kb).1) (X.out.2.2.2.2.le (w' := W1.drew) (Nat.le_refl _)) X.out.1.qw X.out.2.2.1.qw HO.out.1.1.1 HO.out.2.1.1 (HO.out.1.1.2.fine HO.out.2.1.2)) ?_
 rintro e w2 ⟨u2, rfl, z2, hb2⟩
 obtain ⟨p7, q7, A7, n7, c7, B7, m7, d7, rfl, qc7⟩ := QC.of z2
 have G2 := Hd2 qc7 hb2
 refine hK _ _ ⟨?_, ?_⟩; clear hK K
 · exact Keeps.of_below hb2 []
 refine lit ?_
 clear z2 hb2 qc7
 refine E_al 25 fun K hK => ?_; gi_wp2
 refine Cm (first_more (M := (w.heap.size + 1) :: M) (a := (regG regs ka).2) (b := (regG regs kb).2) (X.out.2.2.2.2.le G2.out.2.size) (X.out.2.1.go G2.out.2).qw (X.out.2.2.2.1.go G2.out.2).qw HO.out.1.2.1 HO.out.2.2.1 (HO.out.1.2.2.fine HO.out.2.2.2)) ?_
 rintro e w5 ⟨u5, rfl, z5, hb5⟩
 obtain ⟨p8, q8, A8, n8, c8, B8, m8, d8, rfl, qc8⟩ := QC.of z5
 have F5 := F.out.drew.go (G2.out.2.trans (hb5.mono G2.out.2.size))
 refine op1 F5 ?_; intros
 have G5 := Hd3 F5 (G2.out.1.go hb5) qc8
 refine hK _ _ ⟨?_, ?_⟩; clear hK K
 · exact Keeps.of_below hb5 []
 refine lit ?_
 clear z5 hb5 qc8 F5
 refine E_rd 26 ?_
 refine E_nl 1 ?_; refine tls fun K hK K' hK' => ?_; gi_wp2; refine tail_nil _ ?_; simp only [npost]; gi_wp2
 have hz := G5.out.1.nth 1
 obtain ⟨wF, hwF, ⟨t0, t1, t2, t3⟩, ⟨t4, t5, t6, t7⟩, hG, bF⟩ := fin8 (M := M) (hz 0 _ rfl) (hz 1 _ rfl) (hz 2 _ rfl) (hz 3 _ rfl) (hz 4 _ rfl) (hz 5 _ rfl) (hz 6 _ rfl) (hz 7 _ rfl) (x := maxG (regG regs ka) (regG regs kb)) G5.out.2.1 G5.out.2.2 G5.out.1.bl (by omega)
 rw [hwF]
 exact ⟨rfl, .agg #[.bool p7, .slice A7 n7 c7, .bool q7, .slice B7 m7 d7, .bool p8, .slice A8 n8 c8, .bool q8, .slice B8 m8 d8], by simp [results, go_sem, t0, t1, t2, t3, t4, t5, t6, t7], _, rfl, hG, bF⟩
end
end
end Go.Proofs.YtboapndkopabiaaGreat
