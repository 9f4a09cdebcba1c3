/- The plain laws behind SheetsOnly: what is read lies on the scales, and matching is being the same with clear classes. No statement is proved here. -/
import Derived.Test.YthbbefkmnahnlaaAgr
namespace Go.Proofs.Ythbbefkmnahnlaa

theorem class_range (a b : Int) : 0 ≤ classM a b ∧ classM a b ≤ 3 := by
  unfold classM
  repeat' split
  all_goals omega

theorem one_range (c : Crit) (bx : List Int) : 0 ≤ (oneM c bx).2 ∧ (oneM c bx).2 ≤ 3 := class_range _ _

theorem classes_range : ∀ (c : List Crit) (bs : List (List Int)) (x : Int), x ∈ classesM c bs → 0 ≤ x ∧ x ≤ 3
  | [], _, x, h => by simp [classesM] at h
  | _ :: _, [], x, h => by simp [classesM] at h
  | c :: a, b :: l, x, h => by
    simp only [classesM, List.zipWith_cons_cons, List.mem_cons] at h
    rcases h with rfl | h
    · exact one_range c b
    · exact classes_range a l x h

theorem right_step {c : Crit} (h : rightB c = true) : 1 ≤ c.st ∧ c.lo < c.hi ∧ (c.hi - c.lo) % c.st = 0 ∧ (c.hi - c.lo) / c.st * c.st = c.hi - c.lo ∧ 1 ≤ (c.hi - c.lo) / c.st ∧ 0 ≤ c.lo := by
  have := of_decide_eq_true h
  have e : (c.hi - c.lo) / c.st * c.st = c.hi - c.lo := by
    have := Int.emod_add_mul_ediv (c.hi - c.lo) c.st
    rw [Int.mul_comm] at this; omega
  refine ⟨by omega, by omega, by omega, e, ?_, by omega⟩
  by_cases g : 1 ≤ (c.hi - c.lo) / c.st
  · exact g
  · have : (c.hi - c.lo) / c.st * c.st ≤ 0 * c.st := Int.mul_le_mul_of_nonneg_right (by omega) (by omega)
    omega

theorem on_step {c : Crit} (h : rightB c = true) {i : Int} (h0 : 0 ≤ i) (hi : i ≤ (c.hi - c.lo) / c.st) : onB c (c.lo + i * c.st) = true := by
  obtain ⟨h1, h2, h3, h4, h5, h6⟩ := right_step h
  have g1 : 0 ≤ i * c.st := Int.mul_nonneg h0 (by omega)
  have g2 : i * c.st ≤ (c.hi - c.lo) / c.st * c.st := Int.mul_le_mul_of_nonneg_right hi (by omega)
  unfold onB
  refine decide_eq_true ⟨by omega, by omega, ?_⟩
  rw [show c.lo + i * c.st - c.lo = i * c.st by omega]
  exact Int.mul_emod_left i c.st

theorem boxOk_facts {c : Crit} {bx : List Int} (h : boxOk c bx = true) : (bx.length : Int) = (c.hi - c.lo) / c.st + 1 ∧ ∀ b, b ∈ bx → 0 ≤ b ∧ b ≤ 2 := by
  simp only [boxOk, Bool.and_eq_true, List.all_eq_true, decide_eq_true_eq] at h
  exact h

theorem one_on {c : Crit} {bx : List Int} (h : rightB c = true) (hb : boxOk c bx = true) : ((oneM c bx).1 == -1 || onB c (oneM c bx).1) = true := by
  unfold oneM
  simp only
  split
  · have hl := lastM_le bx 0 0 (Nat.le_refl _)
    have hn := (boxOk_facts hb).1
    have := (right_step h).2.2.2.2.1
    rw [on_step h (by omega) (by omega), Bool.or_true]
  · rfl

theorem marks_scaled : ∀ (c : List Crit) (bs : List (List Int)), c.all rightB = true → boxesOk c bs = true → scaledM c (marksM c bs) = true
  | [], [], _, _ => rfl
  | [], _ :: _, _, h => by simp [boxesOk] at h
  | _ :: _, [], _, h => by simp [boxesOk] at h
  | c :: a, b :: l, h1, h2 => by
    simp only [List.all_cons, boxesOk, Bool.and_eq_true] at h1 h2
    have := marks_scaled a l h1.2 h2.2
    simp only [marksM, List.zipWith_cons_cons, scaledM] at this ⊢
    rw [one_on h1.1 h2.1, this]
    rfl

theorem match_same : ∀ (m x k : List Int), m.length = x.length → k.length = x.length → (∀ v, v ∈ x → 0 ≤ v) → matchM m x k = (x.all (fun v => decide (v ≤ 1)) && sameM m k)
  | [], [], [], _, _, _ => rfl
  | a :: m, v :: x, b :: k, h1, h2, h3 => by
    have := match_same m x k (by simpa using h1) (by simpa using h2) (fun v hv => h3 v (List.mem_cons_of_mem _ hv))
    have h0 := h3 v List.mem_cons_self
    simp only [matchM, this, List.all_cons, sameM]
    by_cases g : a = b
    · simp [g, h0, Bool.and_assoc]
    · simp [g]
  | [], _ :: _, _, h, _, _ => by simp at h
  | _ :: _, [], _, h, _, _ => by simp at h
  | _, [], _ :: _, _, h, _ => by simp at h
  | _, _ :: _, [], _, h, _ => by simp at h

theorem same_refl (a : List Int) : sameM a a = true := (sameM_iff a a).2 rfl

/-- What SheetsOnly wants: of a right sheet and marks on the scales. -/
theorem only_law {c : List Crit} {s : Sheet} {ks : List Int} (hc : checkM c s = 0) (hk : scaledM c ks = true) :
    (readM c s).2.2 = 0 ∧ (readM c s).1.length = c.length ∧ (readM c s).2.1.length = c.length ∧ ks.length = c.length ∧ (∀ v, v ∈ (readM c s).2.1 → 0 ≤ v ∧ v ≤ 3) ∧
    agreesM c s ks = ((readM c s).2.1.all (fun v => decide (v ≤ 1)) && sameM (readM c s).1 ks, 0) ∧ agreesM c s (readM c s).1 = ((readM c s).2.1.all (fun v => decide (v ≤ 1)), 0) := by
  have h0 : (readM c s).2.2 = 0 := by simp [readM, hc]
  obtain ⟨l1, l2⟩ := readM_len h0
  obtain ⟨ha, -, -, hb⟩ := check_zero hc
  have hkl : ks.length = c.length := by
    rcases Nat.decEq c.length ks.length with g | g
    · rw [scaledM_len g] at hk; cases hk
    · exact g.symm
  have hr : ∀ v, v ∈ (readM c s).2.1 → 0 ≤ v ∧ v ≤ 3 := by
    intro v hv
    rw [show (readM c s).2.1 = classesM c s.boxes by simp [readM, hc]] at hv
    exact classes_range _ _ v hv
  have hs : scaledM c (readM c s).1 = true := by
    rw [show (readM c s).1 = marksM c s.boxes by simp [readM, hc]]
    exact marks_scaled _ _ ha hb
  refine ⟨h0, l1, l2, hkl, hr, ?_, ?_⟩
  · rw [agreesM, if_neg (by simp [h0]), if_pos hk, match_same _ _ _ (by omega) (by omega) (fun v hv => (hr v hv).1)]
  · rw [agreesM, if_neg (by simp [h0]), if_pos hs, match_same _ _ _ (by omega) (by omega) (fun v hv => (hr v hv).1), same_refl, Bool.and_true]
end Go.Proofs.Ythbbefkmnahnlaa
