/- The plain laws behind SheetsAlone: what is read of two parts of a sheet. No statement is proved here. -/
import Derived.Test.YthbbefkmnahnlaaPure1
namespace Go.Proofs.Ythbbefkmnahnlaa

theorem boxesOk_cut : ∀ (k : Nat) (c : List Crit) (bs : List (List Int)), boxesOk c bs = true → boxesOk (c.take k) (bs.take k) = true ∧ boxesOk (c.drop k) (bs.drop k) = true
  | 0, c, bs, h => by simpa [boxesOk] using h
  | k + 1, [], [], _ => by simp [boxesOk]
  | k + 1, [], _ :: _, h => by simp [boxesOk] at h
  | k + 1, _ :: _, [], h => by simp [boxesOk] at h
  | k + 1, c :: a, b :: l, h => by
    simp only [boxesOk, Bool.and_eq_true] at h
    have := boxesOk_cut k a l h.2
    simp only [List.take_succ_cons, List.drop_succ_cons, boxesOk, h.1, Bool.true_and]
    exact this

theorem check_cut {c : List Crit} {s : Sheet} (h : checkM c s = 0) (k : Nat) (a b d e a' b' d' e' : Int) (h1 : headOk c.length ⟨a, b, d, e, s.boxes⟩ = true) (h2 : headOk c.length ⟨a', b', d', e', s.boxes⟩ = true) :
    checkM (c.take k) ⟨a, b, d, e, s.boxes.take k⟩ = 0 ∧ checkM (c.drop k) ⟨a', b', d', e', s.boxes.drop k⟩ = 0 := by
  obtain ⟨ha, hn, hl, hb⟩ := check_zero h
  obtain ⟨b1, b2⟩ := boxesOk_cut k c s.boxes hb
  have a1 : (c.take k).all rightB = true := List.all_eq_true.2 fun x hx => List.all_eq_true.1 ha x (List.mem_of_mem_take hx)
  have a2 : (c.drop k).all rightB = true := List.all_eq_true.2 fun x hx => List.all_eq_true.1 ha x (List.mem_of_mem_drop hx)
  have n1 : ¬ 64 < (c.take k).length := by simp; omega
  have n2 : ¬ 64 < (c.drop k).length := by simp; omega
  have g1 : headOk (c.take k).length ⟨a, b, d, e, s.boxes.take k⟩ = true := by
    simp only [headOk, Bool.and_eq_true, decide_eq_true_eq, List.length_take, hl] at h1 ⊢
    simp only [h1, and_self]
  have g2 : headOk (c.drop k).length ⟨a', b', d', e', s.boxes.drop k⟩ = true := by
    simp only [headOk, Bool.and_eq_true, decide_eq_true_eq, List.length_drop, hl] at h2 ⊢
    simp only [h2, and_self]
  have e1 : errM (c.take k) = 0 := by unfold errM; rw [if_neg n1, if_pos a1]
  have e2 : errM (c.drop k) = 0 := by unfold errM; rw [if_neg n2, if_pos a2]
  constructor
  · unfold checkM
    rw [e1, if_neg (by simp), g1]
    show (if (true && boxesOk (c.take k) (s.boxes.take k)) = true then (0 : Int) else 540) = 0
    rw [b1]; rfl
  · unfold checkM
    rw [e2, if_neg (by simp), g2]
    show (if (true && boxesOk (c.drop k) (s.boxes.drop k)) = true then (0 : Int) else 540) = 0
    rw [b2]; rfl

theorem zip_cut {β : Type} (f : Crit → List Int → β) (c : List Crit) (bs : List (List Int)) (k : Nat) (h : bs.length = c.length) : List.zipWith f c bs = List.zipWith f (c.take k) (bs.take k) ++ List.zipWith f (c.drop k) (bs.drop k) := by
  rw [← List.zipWith_append (by simp [h]), List.take_append_drop, List.take_append_drop]

/-- What SheetsAlone wants. -/
theorem alone_law {c : List Crit} {s : Sheet} (h : checkM c s = 0) (k : Nat) :
    readM c s = (marksM c s.boxes, classesM c s.boxes, 0) ∧ readM (c.take k) ⟨0, 0, 0, 0, s.boxes.take k⟩ = (marksM (c.take k) (s.boxes.take k), classesM (c.take k) (s.boxes.take k), 0) ∧
    readM (c.drop k) ⟨7, 3, 9, 1, s.boxes.drop k⟩ = (marksM (c.drop k) (s.boxes.drop k), classesM (c.drop k) (s.boxes.drop k), 0) ∧
    marksM c s.boxes = marksM (c.take k) (s.boxes.take k) ++ marksM (c.drop k) (s.boxes.drop k) ∧ classesM c s.boxes = classesM (c.take k) (s.boxes.take k) ++ classesM (c.drop k) (s.boxes.drop k) := by
  have hl := (check_zero h).2.2.1
  obtain ⟨h1, h2⟩ := check_cut h k 0 0 0 0 7 3 9 1 (by simp [headOk, hl]) (by simp [headOk, hl])
  exact ⟨by simp [readM, h], by simp [readM, h1], by simp [readM, h2], zip_cut _ c s.boxes k hl, zip_cut _ c s.boxes k hl⟩
end Go.Proofs.Ythbbefkmnahnlaa
