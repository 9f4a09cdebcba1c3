/- Lemmas and walks (Reg). No statement is proved here. -/
import Derived.StillTail
import Derived.Test.YtboapndkopabiaaGreatM01
set_option linter.unusedVariables false
set_option linter.unusedSimpArgs false
namespace Go.Proofs.YtboapndkopabiaaGreat
open Go.RowKit Go.Shelf
section
variable {F : Fence} {n : Nat} {P : Program} {Mr : List Nat} {md : Region.Mode} {ops : Array Oper} {Q : Exit → Act → World → Prop}
def readAt (P : Program) (Mr : List Nat) (o : Oper) (a : Act) (w : World) (v : Value) : Prop := ∀ w', Keeps Mr w w' → (execOp a.eval o).run P w' = .ok (.value v) w'
theorem readAt_of {P : Program} {Mr : List Nat} {o : Oper} {a : Act} {w : World} {v : Value} (h : ∀ w', Keeps Mr w w' → ∀ Z : Result Next → Prop, Z (.ok (.value v) w') → Z ((execOp a.eval o).run P w')) : readAt P Mr o a w v :=
 fun w' hk => h w' hk (fun r => r = .ok (.value v) w') rfl
def YieldsE (P : Program) (Mr : List Nat) (ops : Array Oper) (o : Oper) (v : Value) (a : Act) (w : World) : Prop :=
 (Region.wanted o (yielded ops a.tmps) = true ∧ readAt P Mr o a w v) ∨ (Region.wanted o (yielded ops a.tmps) = false ∧ v = undef)
def Oper.mild (o : Oper) : Bool := match o.op with
 | .call { callee := .builtin _, .. } => true
 | .call _ | .defer _ => false
 | _ => true
theorem mild_about {o : Oper} (h : Oper.mild o = true) (w : World) (ρ : Operand → Value) : ∀ f, o.about P w ρ = some f → F.fn f := by
 intro f hf
 unfold Oper.mild at h
 unfold Oper.about at hf
 split at hf
 · rename_i c hc
   rw [hc] at h; obtain ⟨callee, args, ats⟩ := c
   cases callee with
   | builtin b => simp [resolve, pure, Target.leads] at hf
   | value f => simp at h
   | invoke r m => simp at h
 · cases hf
theorem mild_sem {o : Oper} (h : Oper.mild o = true) (r : Option Nat) (ρ : Operand → Value) : o.semAt r ρ = execOp ρ o :=
 Oper.semAt_eq _ _ _ (fun c e => by unfold Oper.mild at h; rw [e] at h; simp at h)
theorem YieldsE.wpOpIn {i : Nat} {o : Oper} {v : Value} {a : Act} {w : World} (hm : Oper.mild o = true) (hi : ops[i]? = some o) (hy : YieldsE P Mr ops o v a w)
 {K : Act → World → Prop} (h : K (a.put o.dst v) w) : wpOpIn F n P ops Q i K a w := by
 unfold Go.wpOpIn
 simp only [hi]
 rcases hy with ⟨hw, hv⟩ | ⟨hw, rfl⟩
 · simp only [hw, if_true, Oper.wpIn, mild_sem hm, hv w (Keeps.refl _ _), Oper.uponIn]; exact ⟨mild_about hm w _, h⟩
 · simp only [hw, Bool.false_eq_true, if_false]; exact ⟨mild_about hm w _, h⟩
theorem YieldsE.of_same {o : Oper} {v : Value} {a a' : Act} {w : World} (hy : YieldsE P Mr ops o v a w) (he : execOp a'.eval o = execOp a.eval o)
 (hw : Region.wanted o (yielded ops a'.tmps) = Region.wanted o (yielded ops a.tmps)) : YieldsE P Mr ops o v a' w := by
 unfold YieldsE readAt at *; rw [he, hw]; exact hy
theorem YieldsE.later {o : Oper} {v : Value} {a : Act} {w w' : World} (hy : YieldsE P Mr ops o v a w) (hk : Keeps Mr w w') : YieldsE P Mr ops o v a w' := by
 rcases hy with ⟨hw, hv⟩ | h
 · exact .inl ⟨hw, fun w2 h2 => hv w2 (hk.trans h2)⟩
 · exact .inr h
theorem wpOpIn_putE {j : Nat} {oi oj : Oper} {v : Value} (hnd : ∀ c, oj.op ≠ .defer c) (hj : ops[j]? = some oj) (hap : oi.apart ops oj = true)
 (hsi : ∀ cs b, oi.op ≠ .select cs b) (hsj : ∀ cs b, oj.op ≠ .select cs b)
 (hQ : ∀ c a w, Q (.panic c) (a.put oi.dst v) w → Q (.panic c) a w) {K : Act → World → Prop} {a : Act} {w W : World}
 (hy : YieldsE P Mr ops oi v a W) (h : wpOpIn F n P ops Q j K (a.put oi.dst v) w) :
 wpOpIn F n P ops Q j (fun a' w' => YieldsE P Mr ops oi v a' W ∧ K (a'.put oi.dst v) w') a w := by
 obtain ⟨h1, h2, h3⟩ := Oper.apart_spec hap
 have keep : ∀ (a : Act), YieldsE P Mr ops oi v a W → ∀ u, YieldsE P Mr ops oi v (a.put oj.dst u) W := fun a hy u =>
  hy.of_same (execOp_put oi hsi a oj.dst u h3) (wanted_put oi a oj.dst u h3)
 unfold wpOpIn at *
 simp only [hj] at *
 rw [wanted_put oj a oi.dst v h1, about_put oj w a oi.dst v h1] at h
 split
 · rename_i hw
   simp only [hw, if_true] at h; unfold Oper.wpIn at *; rw [about_put oj w a oi.dst v h1] at h; refine ⟨h.1, ?_⟩; have h := h.2; rw [Oper.semAt_eq _ _ _ hnd, execOp_put oj hsj a oi.dst v h1] at h; rw [Oper.semAt_eq _ _ _ hnd]; generalize (execOp a.eval oj).run P w = r at *
   cases r with
   | ok x w' =>
     cases x <;> simp only [Oper.uponIn] at h ⊢
     case value u => exact ⟨keep a hy u, by rw [← Act.put_comm a v u h2]; exact h⟩
     case skip => exact ⟨keep a hy _, by rw [← Act.put_comm a v undef h2]; exact h⟩
     case defer d =>
      refine ⟨keep { a with defers := d :: a.defers } (hy.of_same rfl rfl) _, ?_⟩; rw [← Act.put_comm _ v undef h2, ← Act.put_defers]; exact h
     case enter f args =>
      refine ⟨h.1, CallsIn.mono h.2 fun e w'' he => ?_⟩
      cases e with
      | returned u => exact ⟨keep a hy u, by rw [← Act.put_comm a v u h2]; exact he⟩
      | panicked c => exact hQ _ _ _ he
      | outgrown => exact he
     case row row args => exact ⟨h.1, RowsIn.mono h.2 fun u w'' he => ⟨keep a hy u, by rw [← Act.put_comm a v u h2]; exact he⟩⟩
     case round l f tmps assign body =>
      refine ⟨h.1, RoundIn.mono h.2 fun e w'' he => ?_⟩
      cases e with
      | returned u => exact ⟨keep a hy u, by rw [← Act.put_comm a v u h2]; exact he⟩
      | panicked c => exact hQ _ _ _ he
      | outgrown => exact he
   | halt x w' =>
     cases x <;> simp only [Oper.uponIn] at h ⊢
     case panic u => exact hQ _ _ _ h
 · rename_i hw
   simp only [hw] at h; exact ⟨h.1, keep a hy _, by rw [← Act.put_comm a v undef h2]; exact h.2⟩
def wpAnyE (F : Fence) (n : Nat) (P : Program) (Mr : List Nat) (md : Region.Mode) (ops : Array Oper) (Q : Exit → Act → World → Prop) (n0 : Nat) (L : Array Bool → Act → World → Prop) : Nat → Array Bool → Act → World → Prop
 | 0, listed, a, w => L listed a w
 | f + 1, listed, a, w =>
   Region.ready md ops listed ≠ [] ∧
   ∀ i ∈ Region.ready md ops listed, i < n0 ∧ wpOpIn F n P ops Q i (fun a' w' => Keeps Mr w w' ∧ wpAnyE F n P Mr md ops Q n0 L f (listed.setIfInBounds i true) a' w') a w
theorem wpAnyIn_of_E {n0 g : Nat} {L : Array Bool → Act → World → Prop} (hL : ∀ listed a w, L listed a w → wpAnyIn F n P md ops Q g listed a w) :
 ∀ (f : Nat) (listed : Array Bool) (a : Act) (w : World), wpAnyE F n P Mr md ops Q n0 L f listed a w → wpAnyIn F n P md ops Q (f + g) listed a w
 | 0, listed, a, w, h => by rw [Nat.zero_add]; exact hL _ _ _ h
 | f + 1, listed, a, w, h => by
   rw [show f + 1 + g = (f + g) + 1 by omega]; exact ⟨fun h0 => absurd h0 h.1, fun i hi => wpOpIn_mono (fun a' w' h' => wpAnyIn_of_E hL f _ a' w' h'.2) (h.2 i hi).2⟩
def noDefer (ops : Array Oper) : Bool := ops.all fun o => match o.op with | .defer _ => false | _ => true
theorem noDefer_spec (h : noDefer ops = true) (j : Nat) (o : Oper) (ho : ops[j]? = some o) (c : Call) : o.op ≠ .defer c := by
 intro heq
 have := Array.all_eq_true_iff_forall_mem.1 h o (Array.mem_of_getElem? ho)
 simp [heq] at this
def tailWaits (md : Region.Mode) (ops : Array Oper) (n0 : Nat) : Bool := decide (ops.size ≤ n0) || (Region.sinkB md ops n0 && Region.chainB md ops n0)
theorem not_tail {n0 i : Nat} {listed : Array Bool} (ht : tailWaits md ops n0 = true) (inv : HeadInv md ops n0 listed) (hin : i < n0) (hun : listed.getD i true = false) :
 ∀ t, t ∈ Region.ready md ops listed → t < n0 := by
 intro t hr
 rcases Nat.lt_or_ge t n0 with h | h
 · exact h
 · obtain ⟨_, ot, hot, _⟩ := mem_ready.1 hr
   have htlt : t < ops.size := (Array.getElem?_eq_some_iff.1 hot).1; simp only [tailWaits, Bool.or_eq_true, decide_eq_true_eq, Bool.and_eq_true] at ht
   rcases ht with ht | ⟨h1, h2⟩
   · omega
   · exact absurd hr (tail_waits h1 h2 (by omega) inv _ i rfl hin hun t h)
theorem wpAnyE_first {n0 i : Nat} {oi : Oper} {v : Value} {L : Array Bool → Act → World → Prop} (hm : Oper.mild oi = true) (hi : ops[i]? = some oi)
 (hsel : ∀ (j : Nat) (o : Oper) cs b, ops[j]? = some o → o.op ≠ .select cs b) (hdef : noDefer ops = true)
 (hQ : ∀ c a w, Q (.panic c) (a.put oi.dst v) w → Q (.panic c) a w)
 (ht : tailWaits md ops n0 = true) (hin : i < n0) (hdone : ∀ listed a w, L listed a w → ∀ j ∈ Region.ready md ops listed, n0 ≤ j) :
 ∀ (f : Nat) (listed : Array Bool) (a : Act) (w : World), HeadInv md ops n0 listed →
  (∀ j oj, ops[j]? = some oj → j ≠ i → listed.getD j true = false → (∀ e ∈ oj.after, Region.binds md e = true → e.on ≠ i) → oi.apart ops oj = true) →
  i ∈ Region.ready md ops listed → YieldsE P Mr ops oi v a w →
  wpAnyE F n P Mr md ops Q n0 L f (listed.setIfInBounds i true) (a.put oi.dst v) w → wpAnyE F n P Mr md ops Q n0 L (f + 1) listed a w := by
 intro f
 induction f with
 | zero =>
   intro listed a w inv _ hr hy H; have hun := (mem_ready.1 hr).1; refine ⟨fun h => (by rw [h] at hr; cases hr), fun j hj => ?_⟩; have hjn := not_tail ht inv hin hun j hj; refine ⟨hjn, ?_⟩
   by_cases hji : j = i
   · subst hji; exact hy.wpOpIn hm hi ⟨Keeps.refl _ _, H⟩
   · have := hdone _ _ _ H j (ready_mono hj hji)
     omega
 | succ f ih =>
   intro listed a w inv hfree hr hy H; have hun := (mem_ready.1 hr).1; refine ⟨fun h => (by rw [h] at hr; cases hr), fun j hj => ?_⟩; have hjn := not_tail ht inv hin hun j hj; refine ⟨hjn, ?_⟩
   by_cases hji : j = i
   · subst hji; exact hy.wpOpIn hm hi ⟨Keeps.refl _ _, H⟩
   · have h1 := (H.2 j (ready_mono hj hji)).2
     obtain ⟨hjun, oj, hoj, hall⟩ := mem_ready.1 hj
     have hnot : ∀ e ∈ oj.after, Region.binds md e = true → e.on ≠ i := fun e he hb heq => by
      have h1 := hall e he hb; rw [heq, getD_both hun] at h1; cases h1
     have h2 := wpOpIn_putE (W := w) (noDefer_spec hdef j oj hoj) hoj (hfree j oj hoj hji hjun hnot) (fun cs b => hsel i oi cs b hi) (fun cs b => hsel j oj cs b hoj) hQ hy h1
     have hfree' : ∀ k ok, ops[k]? = some ok → k ≠ i → (listed.setIfInBounds j true).getD k true = false →
      (∀ e ∈ ok.after, Region.binds md e = true → e.on ≠ i) → oi.apart ops ok = true := fun k ok hk hki hun hno => by
      refine hfree k ok hk hki ?_ hno
      by_cases hjk : j = k
      · subst hjk; exact hjun
      · rw [getD_set_ne true hjk] at hun; exact hun
     refine wpOpIn_mono (fun a' w' h3 => ⟨h3.2.1, ih (listed.setIfInBounds j true) a' w' (inv.set hj hjn) hfree' (ready_mono hr (Ne.symm hji)) (h3.1.later h3.2.1) ?_⟩) h2; rw [Array.setIfInBounds_comm _ _ hji]; exact h3.2.2
def wpOrd (F : Fence) (n : Nat) (P : Program) (Mr : List Nat) (ops : Array Oper) (Q : Exit → Act → World → Prop) (L : Act → World → Prop) : List Nat → Act → World → Prop
 | [], a, w => L a w
 | i :: rest, a, w => match ops[i]? with
   | none => False
   | some o => if Oper.mild o then (if Region.wanted o (yielded ops a.tmps) then ∃ v, readAt P Mr o a w v ∧ wpOrd F n P Mr ops Q L rest (a.put o.dst v) w else wpOrd F n P Mr ops Q L rest (a.put o.dst undef) w)
     else wpOpIn F n P ops Q i (fun a' w' => Keeps Mr w w' ∧ wpOrd F n P Mr ops Q L rest a' w') a w
def ordOk (md : Region.Mode) (ops : Array Oper) (n0 : Nat) : List Nat → Array Bool → Bool
 | [], listed => (Region.ready md ops listed).all (fun j => decide (n0 ≤ j))
 | i :: rest, listed => decide (i < n0) && (Region.ready md ops listed).contains i &&
    (match ops[i]? with
     | none => false
     | some o => if Oper.mild o then Region.free md ops listed i else (Region.ready md ops listed).all (fun j => j == i)) && ordOk md ops n0 rest (listed.setIfInBounds i true)
def listAll : List Nat → Array Bool → Array Bool
 | [], l => l
 | i :: rest, l => listAll rest (l.setIfInBounds i true)
theorem wpAnyE_of_ord {n0 : Nat} {L : Act → World → Prop} (hsel : Region.noSelect ops = true) (hdef : noDefer ops = true)
 (hQ : ∀ d v c a w, Q (.panic c) (a.put d v) w → Q (.panic c) a w) (ht : tailWaits md ops n0 = true) :
 ∀ (ord : List Nat) (listed : Array Bool) (a : Act) (w : World), HeadInv md ops n0 listed → ordOk md ops n0 ord listed = true → wpOrd F n P Mr ops Q L ord a w →
  wpAnyE F n P Mr md ops Q n0 (fun l a w => l = listAll ord listed ∧ L a w) ord.length listed a w
 | [], listed, a, w, _, _, h => ⟨rfl, h⟩
 | i :: rest, listed, a, w, inv, hok, h => by
   simp only [ordOk, Bool.and_eq_true, decide_eq_true_eq] at hok; obtain ⟨⟨⟨hin, hr⟩, hk⟩, hrest⟩ := hok
   have hr' : i ∈ Region.ready md ops listed := by simpa using hr
   have inv' := inv.set hr' hin; simp only [wpOrd] at h
   cases ho : ops[i]? with
   | none => rw [ho] at h; exact h.elim
   | some o =>
     simp only [ho] at h hk
     have hdone : ∀ (l : Array Bool) (a : Act) (w : World), (l = listAll rest (listed.setIfInBounds i true) ∧ L a w) → ∀ j ∈ Region.ready md ops l, n0 ≤ j := by
      rintro l a w ⟨rfl, _⟩ j hj
      have : ∀ (ord : List Nat) (listed : Array Bool), ordOk md ops n0 ord listed = true → ∀ j ∈ Region.ready md ops (listAll ord listed), n0 ≤ j := by
       intro ord
       induction ord with
       | nil => intro listed h j hj; simp only [ordOk, List.all_eq_true] at h; simpa using h j hj
       | cons k r ih => intro listed h j hj; simp only [ordOk, Bool.and_eq_true] at h; exact ih _ h.2 j hj
      exact this rest _ hrest j hj
     by_cases hm : Oper.mild o = true
     · simp only [hm, if_true] at h hk
       have hy : ∃ v, YieldsE P Mr ops o v a w ∧ wpOrd F n P Mr ops Q L rest (a.put o.dst v) w := by
        by_cases hw : Region.wanted o (yielded ops a.tmps) = true
        · simp only [hw, if_true] at h; obtain ⟨v, h1, h2⟩ := h; exact ⟨v, .inl ⟨hw, h1⟩, h2⟩
        · simp only [hw] at h; exact ⟨undef, .inr ⟨by simpa using hw, rfl⟩, h⟩
       obtain ⟨v, hy, hx⟩ := hy; exact wpAnyE_first hm ho (Region.noSelect_spec hsel) hdef (fun c a w => hQ _ _ c a w) ht hin hdone _ listed a w inv (Region.free_spec ho hk) hr' hy (wpAnyE_of_ord hsel hdef hQ ht rest _ _ _ inv' hrest hx)
     · rw [if_neg hm] at h hk
       refine ⟨fun e => (by rw [e] at hr'; cases hr'), fun j hj => ?_⟩
       have hji : j = i := by simpa using List.all_eq_true.1 hk j hj
       subst hji; exact ⟨hin, wpOpIn_mono (fun a' w' h' => ⟨h'.1, wpAnyE_of_ord hsel hdef hQ ht rest _ _ _ inv' hrest h'.2⟩) h⟩
def tailOk (md : Region.Mode) (ops : Array Oper) : Nat → Nat → Array Bool → Bool
 | 0, _, listed => (Region.ready md ops listed).isEmpty
 | g + 1, k, listed => (Region.ready md ops listed == [k]) && tailOk md ops g (k + 1) (listed.setIfInBounds k true)
theorem wpAnyIn_of_tail : ∀ (g k : Nat) (listed : Array Bool) (a : Act) (w : World), tailOk md ops g k listed = true → wpOpsIn F n P ops Q (List.range' k g) a w → wpAnyIn F n P md ops Q g listed a w
 | 0, k, listed, a, w, h, hw => ⟨by simpa [tailOk] using h, hw⟩
 | g + 1, k, listed, a, w, h, hw => by
   simp only [tailOk, Bool.and_eq_true, beq_iff_eq] at h; refine wpAnyIn_all h.1 (by simp) (fun i hi => ?_)
   obtain rfl : i = k := by simpa using hi
   rw [List.range'_succ, wpOpsIn_cons] at hw; exact wpOpIn_mono (fun a' w' h' => wpAnyIn_of_tail g (i + 1) _ a' w' h.2 h') hw
def regOk (ops : Array Oper) (n0 : Nat) (ord : List Nat) : Bool :=
 Region.noSelect ops && noDefer ops && tailWaits .any ops n0 && ordOk .any ops n0 ord (Array.replicate ops.size false) && decide (ord.length = n0) && decide (n0 ≤ ops.size) &&
  tailOk .any ops (ops.size - n0) n0 (listAll ord (Array.replicate ops.size false))
theorem wpIn_region_ord (Mr : List Nat) {id : Nat} {a : Act} {w : World} (n0 : Nat) (ord : List Nat) (hm : P.follows .mixedOrders = true) (hok : regOk ops n0 ord = true)
 (hQ : ∀ d v c a w, Q (.panic c) (a.put d v) w → Q (.panic c) a w)
 (h : wpOrd F n P Mr ops Q (fun a' w' => wpOpsIn F n P ops Q (List.range' n0 (ops.size - n0)) a' w') ord a { w with drawn := w.drawn + 1 }) : (Code.region id ops true).wpIn F n P Q a w := by
 simp only [regOk, Bool.and_eq_true, decide_eq_true_eq] at hok
 obtain ⟨⟨⟨⟨⟨⟨h1, h2⟩, h3⟩, h4⟩, h5⟩, h6⟩, h7⟩ := hok
 have inv : HeadInv .any ops n0 (Array.replicate ops.size false) :=
  ⟨by simp, fun j oj _ hl => (by rw [getD_replicate_false] at hl; cases hl), fun t _ ht => by simp [ht]⟩
 have hE := wpAnyE_of_ord (F := F) (n := n) (P := P) (md := .any) (Q := Q) h1 h2 hQ h3 ord _ a _ inv h4 h
 rw [h5] at hE
 refine wpIn_region_any hm ?_
 have := wpAnyIn_of_E (g := ops.size - n0) (fun l a w hl => by obtain ⟨rfl, hL⟩ := hl; exact wpAnyIn_of_tail _ _ _ a w h7 hL) _ _ _ _ hE
 rwa [show n0 + (ops.size - n0) = ops.size by omega] at this
def npost (Q : Exit → Act → World → Prop) : Exit → Act → World → Prop
 | .normal, a, w => Q .normal a w
 | _, _, _ => False
theorem wpIn_region_np (Mr : List Nat) {id : Nat} {a : Act} {w : World} (n0 : Nat) (ord : List Nat) (hm : P.follows .mixedOrders = true) (hok : regOk ops n0 ord = true)
 (h : wpOrd F n P Mr ops (npost Q) (fun a' w' => wpOpsIn F n P ops (npost Q) (List.range' n0 (ops.size - n0)) a' w') ord a w.drew) : (Code.region id ops true).wpIn F n P Q a w :=
 wpIn_mono (wpIn_region_ord Mr n0 ord hm hok (fun _ _ _ _ _ h => h) h) (fun e a w h => by cases e <;> first | exact h | exact h.elim)
theorem wpIn_region_all (Mr : List Nat) {id : Nat} {a : Act} {w : World} (ord : List Nat) (hm : P.follows .mixedOrders = true) (hok : regOk ops ops.size ord = true)
 (h : wpOrd F n P Mr ops (npost Q) (fun a' w' => Q .normal a' w') ord a w.drew) : (Code.region id ops true).wpIn F n P Q a w :=
 wpIn_region_np Mr ops.size ord hm hok (by rw [Nat.sub_self]; exact h)
section
variable {L : Act → World → Prop} {i : Nat} {rest : List Nat} {o : Oper} {a : Act} {w : World}
def ordStep (F : Fence) (n : Nat) (P : Program) (Mr : List Nat) (ops : Array Oper) (Q : Exit → Act → World → Prop) (i : Nat) (K : Act → World → Prop) (a : Act) (w : World) : Prop :=
 match ops[i]? with
 | none => False
 | some o => if Oper.mild o then (if Region.wanted o (yielded ops a.tmps) then ∃ v, readAt P Mr o a w v ∧ K (a.put o.dst v) w else K (a.put o.dst undef) w)
    else if Region.wanted o (yielded ops a.tmps) then o.wpIn F n P a w (fun a' w' => Keeps Mr w w' ∧ K a' w') Q else (∀ f, o.about P w a.eval = some f → F.fn f) ∧ K (a.put o.dst undef) w
theorem ord_step (h : ∀ K : Act → World → Prop, (∀ a w, wpOrd F n P Mr ops Q L rest a w → K a w) → ordStep F n P Mr ops Q i K a w) : wpOrd F n P Mr ops Q L (i :: rest) a w := by
 have h := h _ (fun _ _ h => h)
 unfold ordStep at h
 unfold wpOrd
 cases ho : ops[i]? with
 | none => rw [ho] at h; exact h
 | some o =>
   simp only [ho] at h ⊢
   by_cases hm : Oper.mild o = true
   · simp only [hm, if_true] at h ⊢; exact h
   · rw [if_neg hm] at h ⊢
     unfold wpOpIn; simp only [ho]
     by_cases hw : Region.wanted o (yielded ops a.tmps) = true
     · simp only [hw, if_true] at h ⊢; exact h
     · rw [if_neg hw] at h ⊢; exact ⟨h.1, Keeps.refl _ _, h.2⟩
section
variable {l : List Oper} {K : Act → World → Prop} {o : Oper}
theorem ordStep_read (ho : l[i]? = some o) (hm : Oper.mild o = true) (hw : Region.wanted o (yielded l.toArray a.tmps) = true) (h : ∃ v, (∀ w', Keeps Mr w w' → ∀ Z : Result Next → Prop, Z (.ok (.value v) w') → Z ((execOp a.eval o).run P w')) ∧ K (a.put o.dst v) w) :
 ordStep F n P Mr l.toArray Q i K a w := by
 unfold ordStep; rw [List.getElem?_toArray, ho]; simp only [hm, hw, if_true]; exact h.imp fun v hv => ⟨readAt_of hv.1, hv.2⟩
theorem ordStep_skip (ho : l[i]? = some o) (hm : Oper.mild o = true) (hw : Region.wanted o (yielded l.toArray a.tmps) = false) (hk : K (a.put o.dst undef) w) :
 ordStep F n P Mr l.toArray Q i K a w := by
 unfold ordStep; rw [List.getElem?_toArray, ho]; simp only [hm, hw, if_true]; exact hk
theorem wanted_none {ys : Nat → Option Bool} (h : o.guard = none) : Region.wanted o ys = true := by simp [Region.wanted, h]
theorem wanted_yes {ys : Nat → Option Bool} {g : Nat} {b : Bool} (h : o.guard = some (g, b)) (hy : ys g = some b) : Region.wanted o ys = true := by simp [Region.wanted, h, hy]
theorem wanted_no {ys : Nat → Option Bool} {g : Nat} {b : Bool} (h : o.guard = some (g, b)) (hy : ys g = some (!b)) : Region.wanted o ys = false := by cases b <;> simp [Region.wanted, h, hy]
theorem wanted_un {ys : Nat → Option Bool} {g : Nat} {b : Bool} (h : o.guard = some (g, b)) (hy : ys g = none) : Region.wanted o ys = false := by cases b <;> simp [Region.wanted, h, hy]
theorem ordStep_call (ho : l[i]? = some o) (hm : Oper.mild o = false) (hw : Region.wanted o (yielded l.toArray a.tmps) = true)
 (h : ∀ K' : Act → World → Prop, (∀ a' w', Keeps Mr w w' ∧ K a' w' → K' a' w') → o.wpIn F n P a w K' Q) :
 ordStep F n P Mr l.toArray Q i K a w := by
 unfold ordStep; rw [List.getElem?_toArray, ho]; simp only [hm, hw, if_true]; exact h _ (fun _ _ h => h)
theorem ordStep_callskip (ho : l[i]? = some o) (hm : Oper.mild o = false) (hw : Region.wanted o (yielded l.toArray a.tmps) = false) (hF : ∀ f, F.fn f) (hk : K (a.put o.dst undef) w) :
 ordStep F n P Mr l.toArray Q i K a w := by
 unfold ordStep; rw [List.getElem?_toArray, ho]; simp only [hm, hw]; exact ⟨fun f _ => hF f, hk⟩
end
theorem ord_nil (h : L a w) : wpOrd F n P Mr ops Q L [] a w := h
def tailStep (F : Fence) (n : Nat) (P : Program) (ops : Array Oper) (Q : Exit → Act → World → Prop) (i : Nat) (K : Act → World → Prop) (a : Act) (w : World) : Prop :=
 match ops[i]? with
 | none => K a w
 | some o => if Region.wanted o (yielded ops a.tmps) then o.wpIn F n P a w K Q else (∀ f, o.about P w a.eval = some f → F.fn f) ∧ K (a.put o.dst undef) w
theorem tail_step {k g : Nat} (h : ∀ K : Act → World → Prop, (∀ a' w', wpOpsIn F n P ops Q (List.range' (k + 1) g) a' w' → K a' w') → tailStep F n P ops Q k K a w) : wpOpsIn F n P ops Q (List.range' k (g + 1)) a w := by
 rw [List.range'_succ, wpOpsIn_cons]
 exact h _ (fun _ _ h => h)
theorem tailStep_op {l : List Oper} {K : Act → World → Prop} {o : Oper} (ho : l[i]? = some o) (hw : Region.wanted o (yielded l.toArray a.tmps) = true)
 (h : ∀ K' : Act → World → Prop, (∀ a' w', K a' w' → K' a' w') → o.wpIn F n P a w K' Q) : tailStep F n P l.toArray Q i K a w := by
 unfold tailStep; rw [List.getElem?_toArray, ho]; simp only [hw, if_true]; exact h _ (fun _ _ h => h)
theorem tail_nil (k : Nat) (h : Q .normal a w) : wpOpsIn F n P ops Q (List.range' k 0) a w := h
end
end
section
variable {F : Fence} {n : Nat} {P : Program} {Mr : List Nat} {Q : Exit → Act → World → Prop}
def invB (md : Region.Mode) (ops : Array Oper) (n0 : Nat) (listed : Array Bool) : Bool :=
 (listed.size == ops.size) && (List.range ops.size).all (fun j => !listed.getD j false || (match ops[j]? with | some oj => oj.after.all (fun e => !Region.binds md e || listed.getD e.on false) | none => true)) &&
 (List.range ops.size).all (fun t => decide (t < n0) || !(listed.getD t true))
theorem inv_of_B {md : Region.Mode} {ops : Array Oper} {n0 : Nat} {listed : Array Bool} (h : invB md ops n0 listed = true) : HeadInv md ops n0 listed := by
 simp only [invB, Bool.and_eq_true, beq_iff_eq] at h
 obtain ⟨⟨h1, h2⟩, h3⟩ := h
 refine ⟨h1, fun j oj hj hl e he hb => ?_, fun t ht htl => ?_⟩
 · have := List.all_eq_true.1 h2 j (List.mem_range.2 (Array.getElem?_eq_some_iff.1 hj).1)
   rw [hl, hj] at this; simp only [Bool.not_true, Bool.false_or] at this; have := Array.all_eq_true_iff_forall_mem.1 this e he
   simpa [hb] using this
 · have := List.all_eq_true.1 h3 t (List.mem_range.2 htl)
   have hn : ¬ t < n0 := by omega
   simpa [hn] using this
def headAll (ops : Array Oper) (n0 : Nat) : Array Bool := ((List.range ops.size).map (fun j => decide (j < n0))).toArray
def Lh (F : Fence) (n : Nat) (P : Program) (ops : Array Oper) (Q : Exit → Act → World → Prop) (n0 : Nat) : Array Bool → Act → World → Prop :=
 fun l a w => l = headAll ops n0 ∧ wpOpsIn F n P ops Q (List.range' n0 (ops.size - n0)) a w
def wpE (F : Fence) (n : Nat) (P : Program) (Mr : List Nat) (ops : Array Oper) (Q : Exit → Act → World → Prop) (n0 f : Nat) (listed : Array Bool) (a : Act) (w : World) : Prop :=
 wpAnyE F n P Mr .any ops Q n0 (Lh F n P ops Q n0) f listed a w
def startOk (ops : Array Oper) (n0 : Nat) : Bool := decide (n0 ≤ ops.size) && tailOk .any ops (ops.size - n0) n0 (headAll ops n0)
theorem region_E (Mr : List Nat) {ops : Array Oper} {id : Nat} {a : Act} {w : World} (n0 : Nat) (hm : P.follows .mixedOrders = true) (hok : startOk ops n0 = true)
 (h : wpE F n P Mr ops Q n0 n0 (Array.replicate ops.size false) a w.drew) : (Code.region id ops true).wpIn F n P Q a w := by
 simp only [startOk, Bool.and_eq_true, decide_eq_true_eq] at hok
 refine wpIn_region_any hm ?_
 have := wpAnyIn_of_E (g := ops.size - n0) (fun l a w hl => by obtain ⟨rfl, hL⟩ := hl; exact wpAnyIn_of_tail _ _ _ a w hok.2 hL) _ _ _ _ h
 rwa [show n0 + (ops.size - n0) = ops.size by omega] at this
theorem region_E_np (Mr : List Nat) {ops : Array Oper} {id : Nat} {a : Act} {w : World} (n0 : Nat) (hm : P.follows .mixedOrders = true) (hok : startOk ops n0 = true)
 (h : wpE F n P Mr ops (npost Q) n0 n0 (Array.replicate ops.size false) a w.drew) : (Code.region id ops true).wpIn F n P Q a w :=
 wpIn_mono (region_E Mr n0 hm hok h) (fun e a w h => by cases e <;> first | exact h | exact h.elim)
theorem np_panic (d : Option Tmp) (v : Value) (c : List PanicEntry) (a : Act) (w : World) (h : npost Q (.panic c) (a.put d v) w) : npost Q (.panic c) a w := h.elim
theorem E_nil {ops : Array Oper} {n0 : Nat} {listed : Array Bool} {a : Act} {w : World} (g : Nat) (hl : listed = headAll ops n0) (hg : ops.size - n0 = g) (h : wpOpsIn F n P ops Q (List.range' n0 g) a w) : wpE F n P Mr ops Q n0 0 listed a w := ⟨hl, by rw [hg]; exact h⟩
def readOk (ops : Array Oper) (n0 : Nat) (listed : Array Bool) (i : Nat) : Bool :=
 invB .any ops n0 listed && decide (i < n0) && (Region.ready .any ops listed).contains i && Region.free .any ops listed i && Region.noSelect ops && noDefer ops && tailWaits .any ops n0 &&
  (Region.ready .any ops (headAll ops n0)).all (fun j => decide (n0 ≤ j))
theorem E_read {l : List Oper} {n0 f : Nat} {listed : Array Bool} {a : Act} {w : World} (i : Nat) {o : Oper} (hok : readOk l.toArray n0 listed i = true) (ho : l[i]? = some o) (hm : Oper.mild o = true)
 (hw : Region.wanted o (yielded l.toArray a.tmps) = true) (hQ : ∀ d v c a w, Q (.panic c) (a.put d v) w → Q (.panic c) a w)
 (h : ∃ v, (∀ w', Keeps Mr w w' → ∀ Z : Result Next → Prop, Z (.ok (.value v) w') → Z ((execOp a.eval o).run P w')) ∧ wpE F n P Mr l.toArray Q n0 f (listed.setIfInBounds i true) (a.put o.dst v) w) :
 wpE F n P Mr l.toArray Q n0 (f + 1) listed a w := by
 simp only [readOk, Bool.and_eq_true, decide_eq_true_eq] at hok
 obtain ⟨⟨⟨⟨⟨⟨⟨h1, h2⟩, h3⟩, h4⟩, h5⟩, h6⟩, h7⟩, h8⟩ := hok
 have ho' : l.toArray[i]? = some o := by rw [List.getElem?_toArray]; exact ho
 obtain ⟨v, hv, hx⟩ := h
 exact wpAnyE_first hm ho' (Region.noSelect_spec h5) h6 (fun c a w => hQ _ _ c a w) h7 h2 (fun l' a w hl j hj => by obtain ⟨rfl, _⟩ := hl; simpa using List.all_eq_true.1 h8 j hj) _ listed a w (inv_of_B h1) (Region.free_spec ho' h4) (by simpa using h3) (.inl ⟨hw, readAt_of hv⟩) hx
def AllE (F : Fence) (n : Nat) (P : Program) (Mr : List Nat) (ops : Array Oper) (Q : Exit → Act → World → Prop) (n0 f : Nat) (listed : Array Bool) (a : Act) (w : World) : List Nat → Prop
 | [] => True
 | i :: r => (i < n0 ∧ wpOpIn F n P ops Q i (fun a' w' => Keeps Mr w w' ∧ wpE F n P Mr ops Q n0 f (listed.setIfInBounds i true) a' w') a w) ∧ AllE F n P Mr ops Q n0 f listed a w r
theorem E_all {ops : Array Oper} {n0 f : Nat} {listed : Array Bool} {a : Act} {w : World} (i : Nat) (r : List Nat) (hr : Region.ready .any ops listed = i :: r) (h : AllE F n P Mr ops Q n0 f listed a w (i :: r)) :
 wpE F n P Mr ops Q n0 (f + 1) listed a w := by
 refine ⟨by rw [hr]; simp, ?_⟩
 rw [hr]
 have : ∀ (l : List Nat), AllE F n P Mr ops Q n0 f listed a w l → ∀ j ∈ l, j < n0 ∧ wpOpIn F n P ops Q j (fun a' w' => Keeps Mr w w' ∧ wpE F n P Mr ops Q n0 f (listed.setIfInBounds j true) a' w') a w := by
  intro l
  induction l with
  | nil => intro _ j hj; cases hj
  | cons k r ih =>
    intro h j hj
    rcases List.mem_cons.1 hj with e | e
    · subst e; exact h.1
    · exact ih h.2 j e
 exact this _ h
theorem AllE_nil {ops : Array Oper} {n0 f : Nat} {listed : Array Bool} {a : Act} {w : World} : AllE F n P Mr ops Q n0 f listed a w [] := trivial
theorem AllE_cons {l : List Oper} {n0 f : Nat} {listed : Array Bool} {a : Act} {w : World} {i : Nat} {r : List Nat} {o : Oper} (hi : i < n0) (ho : l[i]? = some o) (hw : Region.wanted o (yielded l.toArray a.tmps) = true)
 (h : ∀ K : Act → World → Prop, (∀ a' w', Keeps Mr w w' ∧ wpE F n P Mr l.toArray Q n0 f (listed.setIfInBounds i true) a' w' → K a' w') → o.wpIn F n P a w K Q)
 (hr : AllE F n P Mr l.toArray Q n0 f listed a w r) : AllE F n P Mr l.toArray Q n0 f listed a w (i :: r) := by
 refine ⟨⟨hi, ?_⟩, hr⟩
 unfold wpOpIn
 rw [List.getElem?_toArray, ho]
 simp only [hw, if_true]
 exact h _ (fun _ _ h => h)
end
attribute [irreducible] wpE AllE
theorem wpIn_append {F : Fence} {n : Nat} {P : Program} {Q : Exit → Act → World → Prop} {K : Act → World → Prop} {o : Oper} {a : Act} {w w' : World} (x y : Operand) (t : TypeId) {v v' : Value} {A : Option Addr} {m c : Nat}
 (ho : o.op = .call { callee := .builtin .append, args := #[x, y], argTypes := #[t, t] }) (hx : a.eval x = v) (hy : a.eval y = .slice A m c)
 (hr : (Builtin.append_ #[t, t] o.type #[v, .slice A m c]).run P w = .ok v' w') (hk : K (a.put o.dst v') w') : o.wpIn F n P a w K Q := by
 have hm : Oper.mild o = true := by unfold Oper.mild; rw [ho]
 unfold Oper.wpIn
 refine ⟨mild_about hm w _, ?_⟩
 rw [mild_sem hm]
 unfold execOp
 rw [ho]
 simp only [resolve, invoke, builtin, Sem.run_bind, Sem.run_pure, Result.andThen_ok, List.map_toArray, List.map_cons, List.map_nil, hx, hy, hr]
 exact hk
attribute [irreducible] ordStep wpOrd YieldsE readAt tailStep
theorem stays {w : World} {b o : Nat} {u : Value} (h : w.cell? ⟨b, o, none⟩ = some u) : ∀ w', Keeps [] w w' → w'.cell? ⟨b, o, none⟩ = some u := fun _ k => k.cell (by simp) h
theorem stays_drew {w : World} {b o : Nat} {u : Value} (h : w.cell? ⟨b, o, none⟩ = some u) : ∀ w', Keeps [] w.drew w' → w'.cell? ⟨b, o, none⟩ = some u := fun _ k => k.cell (w := w.drew) (by simp) h
theorem stays_m {Mr : List Nat} {w : World} {b o : Nat} {u : Value} (hb : b ∉ Mr) (h : w.cell? ⟨b, o, none⟩ = some u) : ∀ w', Keeps Mr w.drew w' → w'.cell? ⟨b, o, none⟩ = some u := fun _ k => k.cell (w := w.drew) hb h
theorem ent {F : Fence} {n : Nat} {P : Program} {f k : Nat} {fn : Func} {c : Code} {args a' : Array Value} {w : World} {R : Ending → World → Prop} (hf : P.funcs[f]? = some fn) (hb : fn.body = some c) (hn : fn.ntmps = k)
 (h : c.wpIn F n P (bodyPost P fn R) ⟨a', []⟩ w) (hF : F.fn f := by exact trivial) (ha : args ++ Array.replicate (k - args.size) undef = a' := by (simp only [List.size_toArray, List.length_cons, List.length_nil, Nat.reduceAdd, Nat.reduceSub, Array.replicate_succ, Array.replicate_zero, List.push_toArray, List.append_toArray, List.nil_append, List.cons_append]; (first | done | exact rfl))) (hro : F.round = none := by exact rfl) : CallsIn F n P f args w R :=
 callsIn_of_wp hf hb hF (by rw [hn, ha]; exact h) hro
theorem entd {F : Fence} {n : Nat} {P : Program} {f k : Nat} {fn : Func} {c : Code} {args a' : Array Value} {w : World} {R : Ending → World → Prop} (hf : P.funcs[f]? = some fn) (hb : fn.body = some c) (hn : fn.ntmps = k)
 (h : c.wpIn F n P (bodyPostDIn F n P fn R) ⟨a', []⟩ w) (hF : F.fn f := by exact trivial) (ha : args ++ Array.replicate (k - args.size) undef = a' := by (simp only [List.size_toArray, List.length_cons, List.length_nil, Nat.reduceAdd, Nat.reduceSub, Array.replicate_succ, Array.replicate_zero, List.push_toArray, List.append_toArray, List.nil_append, List.cons_append]; (first | done | exact rfl))) (hro : F.round = none := by exact rfl) : CallsIn F n P f args w R :=
 callsIn_of_wp_defers hf hb hF (by rw [hn, ha]; exact h) hro
theorem entm {F : Fence} {n : Nat} {P : Program} {f k : Nat} {fn : Func} {c : Code} {args a' : Array Value} {w : World} {R : Ending → World → Prop} (hf : P.funcs[f]? = some fn) (hb : fn.body = some c) (hn : fn.ntmps = k)
 (h : c.wpIn F n P (bodyPostM F n P fn R) ⟨a', []⟩ w) (hF : F.fn f := by exact trivial) (ha : args ++ Array.replicate (k - args.size) undef = a' := by (simp only [List.size_toArray, List.length_cons, List.length_nil, Nat.reduceAdd, Nat.reduceSub, Array.replicate_succ, Array.replicate_zero, List.push_toArray, List.append_toArray, List.nil_append, List.cons_append]; (first | done | exact rfl))) (hro : F.round = none := by exact rfl) : CallsIn F n P f args w R :=
 callsIn_of_wp_marks hf hb hF (by rw [hn, ha]; exact h) hro
theorem wid {P : Program} {f : FuncId} {args : Array Value} {w : World} {R : Ending → World → Prop} (h : CallsIn Fence.wide 10 P f args w R) : Calls P f args w R := callsIn_wide.1 h
theorem Cl {n : Nat} {P : Program} {args : Array Value} {w : World} {R Q : Ending → World → Prop} (f : FuncId) (h : Calls P f args w R) (k : ∀ e w', R e w' → Q e w') : Fence.wide.fn f ∧ CallsIn Fence.wide n P f args w Q := ⟨trivial, (callsIn_wide.2 h).mono k⟩
theorem Cm {n : Nat} {P : Program} {f : FuncId} {args : Array Value} {w : World} {R Q : Ending → World → Prop} (h : Calls P f args w R) (k : ∀ e w', R e w' → Q e w') : Fence.wide.fn f ∧ CallsIn Fence.wide n P f args w Q := ⟨trivial, (callsIn_wide.2 h).mono k⟩
theorem Cn {n : Nat} {P : Program} {f : FuncId} {args : Array Value} {w : World} {R Q : Ending → World → Prop} (h : Calls P f args w R) (k : ∀ e w', R e w' → Q e w') : CallsIn Fence.wide n P f args w Q := (callsIn_wide.2 h).mono k
theorem Hd {p : Prop} (h : p) : RowKit.Hid p := h
theorem Hd2 {p q : Prop} (a : p) (b : q) : RowKit.Hid (p ∧ q) := ⟨a, b⟩
theorem Hd3 {p q r : Prop} (a : p) (b : q) (c : r) : RowKit.Hid (p ∧ q ∧ r) := ⟨a, b, c⟩
theorem Hd4 {p q r s : Prop} (a : p) (b : q) (c : r) (d : s) : RowKit.Hid (p ∧ q ∧ r ∧ s) := ⟨a, b, c, d⟩
theorem Hd5 {p q r s t : Prop} (a : p) (b : q) (c : r) (d : s) (e : t) : RowKit.Hid (p ∧ q ∧ r ∧ s ∧ t) := ⟨a, b, c, d, e⟩
theorem Hd6 {p q r s t u : Prop} (a : p) (b : q) (c : r) (d : s) (e : t) (f : u) : RowKit.Hid (p ∧ q ∧ r ∧ s ∧ t ∧ u) := ⟨a, b, c, d, e, f⟩
theorem Hd7 {p q r s t u v : Prop} (a : p) (b : q) (c : r) (d : s) (e : t) (f : u) (g : v) : RowKit.Hid (p ∧ q ∧ r ∧ s ∧ t ∧ u ∧ v) := ⟨a, b, c, d, e, f, g⟩
theorem wy {p : Prop} (h : p := by (first | exact wanted_none rfl | (refine wanted_yes rfl ?_; (focus (simp [yielded]; done))) | fail)) : p := h
theorem wn {p : Prop} (h : p := by (first | (refine wanted_no rfl ?_; (focus (simp [yielded]; done))) | (refine wanted_un rfl ?_; (focus (simp [yielded]; done))) | fail)) : p := h
theorem bel {p : Prop} (h : p := by (repeat (first | exact Below.refl _ _ | assumption | refine Below.drew ?_ | refine Below.setCell ?_ (by (first | (simp; done) | (simp; omega) | omega)) _ | refine Below.alloc ?_ (by (first | (simp; done) | (simp; omega) | omega)) _))) : p := h
theorem lit {p q : Prop} (h : q) (e : p = q := by ((try simp only [Act.put, List.setIfInBounds_toArray, List.set_cons_succ, List.set_cons_zero]); (first | done | exact rfl))) : p := e ▸ h
section
variable {F : Fence} {n : Nat} {P : Program} {Mr : List Nat} {Q : Exit → Act → World → Prop}
theorem E_rd {l : List Oper} {n0 f : Nat} {listed listed' : Array Bool} {a a' : Act} {w : World} (i : Nat) {o : Oper} {v : Value} (h : wpE F n P Mr l.toArray (npost Q) n0 f listed' a' w)
 (hok : readOk l.toArray n0 listed i = true := by kernel_rfl) (ho : l[i]? = some o := by exact rfl) (hm : Oper.mild o = true := by exact rfl)
 (hw : Region.wanted o (yielded l.toArray a.tmps) = true := by (first | exact wanted_none rfl | (refine wanted_yes rfl ?_; (focus (simp [yielded]; done))) | fail))
 (hv : ∀ w', Keeps Mr w w' → ∀ Z : Result Next → Prop, Z (.ok (.value v) w') → Z ((execOp a.eval o).run P w') := by (intro w' hk Z hZ; simp only [execOp]; (repeat conv in Act.eval _ _ => whnf); (try go_simp); exact hZ))
 (ha : a.put o.dst v = a' := by ((try simp only [Act.put, List.setIfInBounds_toArray, List.set_cons_succ, List.set_cons_zero]); (first | done | exact rfl)))
 (hl : listed.setIfInBounds i true = listed' := by ((try simp only [Act.put, List.setIfInBounds_toArray, List.set_cons_succ, List.set_cons_zero]); (first | done | exact rfl))) :
 wpE F n P Mr l.toArray (npost Q) n0 (f + 1) listed a w :=
 E_read i hok ho hm hw np_panic ⟨v, hv, by rw [ha, hl]; exact h⟩
theorem E_al {l : List Oper} {n0 f : Nat} {listed : Array Bool} {a : Act} {w : World} (i : Nat) {o : Oper}
 (h : ∀ K : Act → World → Prop, (∀ a' w', Keeps Mr w w' ∧ wpE F n P Mr l.toArray Q n0 f (listed.setIfInBounds i true) a' w' → K a' w') → o.wpIn F n P a w K Q)
 (hr : Region.ready .any l.toArray listed = [i] := by kernel_rfl) (hi : i < n0 := by decide) (ho : l[i]? = some o := by exact rfl)
 (hw : Region.wanted o (yielded l.toArray a.tmps) = true := by (first | exact wanted_none rfl | (refine wanted_yes rfl ?_; (focus (simp [yielded]; done))) | fail)) :
 wpE F n P Mr l.toArray Q n0 (f + 1) listed a w :=
 E_all i [] hr (AllE_cons hi ho hw h AllE_nil)
theorem E_nl {ops : Array Oper} {n0 : Nat} {listed : Array Bool} {a : Act} {w : World} (g : Nat) (h : wpOpsIn F n P ops Q (List.range' n0 g) a w) (hl : listed = headAll ops n0 := by kernel_rfl) (hg : ops.size - n0 = g := by exact rfl) : wpE F n P Mr ops Q n0 0 listed a w := E_nil g hl hg h
theorem R_rd {l : List Oper} {n0 f : Nat} {listed listed' : Array Bool} {a a' : Act} {w : World} (i : Nat) {o : Oper} {v : Value} (h : wpE F n P Mr l.toArray (npost Q) n0 f listed' a' w)
 (hok : readOk l.toArray n0 listed i = true := by kernel_rfl) (ho : l[i]? = some o := by exact rfl) (hm : Oper.mild o = true := by exact rfl)
 (hw : Region.wanted o (yielded l.toArray a.tmps) = true := by (first | exact wanted_none rfl | (refine wanted_yes rfl ?_; (focus (simp [yielded]; done))) | fail))
 (hv : ∀ w', Keeps Mr w w' → ∀ Z : Result Next → Prop, Z (.ok (.value v) w') → Z ((execOp a.eval o).run P w') := by (intro w' hk Z hZ; simp only [execOp]; (repeat conv in Act.eval _ _ => whnf); (try go_simp); exact hZ))
 (ha : a.put o.dst v = a' := by ((try simp only [Act.put, List.setIfInBounds_toArray, List.set_cons_succ, List.set_cons_zero]); (first | done | exact rfl)))
 (hl : listed.setIfInBounds i true = listed' := by ((try simp only [Act.put, List.setIfInBounds_toArray, List.set_cons_succ, List.set_cons_zero]); (first | done | exact rfl))) :
 wpE F n P Mr l.toArray (npost Q) n0 (f + 1) listed a w :=
 E_read i hok ho hm hw np_panic ⟨v, hv, by rw [ha, hl]; exact h⟩
theorem R_al {l : List Oper} {n0 f : Nat} {listed : Array Bool} {a : Act} {w : World} (i : Nat) {o : Oper}
 (h : ∀ K : Act → World → Prop, (∀ a' w', Keeps Mr w w' ∧ wpE F n P Mr l.toArray Q n0 f (listed.setIfInBounds i true) a' w' → K a' w') → o.wpIn F n P a w K Q)
 (hr : Region.ready .any l.toArray listed = [i] := by kernel_rfl) (hi : i < n0 := by decide) (ho : l[i]? = some o := by exact rfl)
 (hw : Region.wanted o (yielded l.toArray a.tmps) = true := by (first | exact wanted_none rfl | (refine wanted_yes rfl ?_; (focus (simp [yielded]; done))) | fail)) :
 wpE F n P Mr l.toArray Q n0 (f + 1) listed a w :=
 E_all i [] hr (AllE_cons hi ho hw h AllE_nil)
theorem R_nl {ops : Array Oper} {n0 : Nat} {listed : Array Bool} {a : Act} {w : World} (g : Nat) (h : wpOpsIn F n P ops Q (List.range' n0 g) a w) (hl : listed = headAll ops n0 := by kernel_rfl) (hg : ops.size - n0 = g := by exact rfl) : wpE F n P Mr ops Q n0 0 listed a w := E_nil g hl hg h
variable {L : Act → World → Prop} {i : Nat} {rest : List Nat} {l : List Oper} {o : Oper} {a a' : Act} {w : World} {v : Value}
theorem tls {k g : Nat} (h : ∀ K : Act → World → Prop, (∀ a' w', wpOpsIn F n P l.toArray Q (List.range' (k + 1) g) a' w' → K a' w') → ∀ K' : Act → World → Prop, (∀ a' w', K a' w' → K' a' w') → o.wpIn F n P a w K' Q) (ho : l[k]? = some o := by exact rfl) (hw : Region.wanted o (yielded l.toArray a.tmps) = true := by (first | exact wanted_none rfl | (refine wanted_yes rfl ?_; (focus (simp [yielded]; done))) | fail)) : wpOpsIn F n P l.toArray Q (List.range' k (g + 1)) a w :=
 tail_step fun K hK => tailStep_op ho hw fun K' hK' => h K hK K' hK'
theorem ord_rd (h : wpOrd F n P Mr l.toArray Q L rest a' w) (ho : l[i]? = some o := by exact rfl) (hm : Oper.mild o = true := by exact rfl)
 (hw : Region.wanted o (yielded l.toArray a.tmps) = true := by (first | exact wanted_none rfl | (refine wanted_yes rfl ?_; (focus (simp [yielded]; done))) | fail))
 (hv : ∀ w', Keeps Mr w w' → ∀ Z : Result Next → Prop, Z (.ok (.value v) w') → Z ((execOp a.eval o).run P w') := by (intro w' hk Z hZ; simp only [execOp]; (repeat conv in Act.eval _ _ => whnf); (try go_simp); exact hZ))
 (ha : a.put o.dst v = a' := by ((try simp only [Act.put, List.setIfInBounds_toArray, List.set_cons_succ, List.set_cons_zero]); (first | done | exact rfl))) : wpOrd F n P Mr l.toArray Q L (i :: rest) a w :=
 ord_step fun K hK => ordStep_read ho hm hw ⟨v, hv, hK _ _ (ha ▸ h)⟩
theorem ord_sk (h : wpOrd F n P Mr l.toArray Q L rest a' w) (ho : l[i]? = some o := by exact rfl) (hm : Oper.mild o = true := by exact rfl)
 (hw : Region.wanted o (yielded l.toArray a.tmps) = false := by (first | (refine wanted_no rfl ?_; (focus (simp [yielded]; done))) | (refine wanted_un rfl ?_; (focus (simp [yielded]; done))) | fail))
 (ha : a.put o.dst undef = a' := by ((try simp only [Act.put, List.setIfInBounds_toArray, List.set_cons_succ, List.set_cons_zero]); (first | done | exact rfl))) : wpOrd F n P Mr l.toArray Q L (i :: rest) a w :=
 ord_step fun K hK => ordStep_skip ho hm hw (hK _ _ (ha ▸ h))
theorem ord_cs (h : wpOrd F n P Mr l.toArray Q L rest a' w) (ho : l[i]? = some o := by exact rfl) (hm : Oper.mild o = false := by exact rfl)
 (hw : Region.wanted o (yielded l.toArray a.tmps) = false := by (first | (refine wanted_no rfl ?_; (focus (simp [yielded]; done))) | (refine wanted_un rfl ?_; (focus (simp [yielded]; done))) | fail)) (hF : ∀ f, F.fn f := by exact fun _ => trivial)
 (ha : a.put o.dst undef = a' := by ((try simp only [Act.put, List.setIfInBounds_toArray, List.set_cons_succ, List.set_cons_zero]); (first | done | exact rfl))) : wpOrd F n P Mr l.toArray Q L (i :: rest) a w :=
 ord_step fun K hK => ordStep_callskip ho hm hw hF (hK _ _ (ha ▸ h))
end
end Go.Proofs.YtboapndkopabiaaGreat
