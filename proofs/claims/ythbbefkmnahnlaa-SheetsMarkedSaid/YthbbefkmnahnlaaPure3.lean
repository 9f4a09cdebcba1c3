/- The plain laws behind SheetsMarked and SheetsError: what is read of filled boxes, and of filled boxes with one error. No statement is proved here. -/
import Derived.Test.YthbbefkmnahnlaaFill
namespace Go.Proofs.Ythbbefkmnahnlaa

theorem last_zero : ∀ (N i acc : Nat), lastM (List.replicate N 0) i acc = acc
  | 0, i, acc => rfl
  | N + 1, i, acc => by
    rw [List.replicate_succ, lastM, if_neg (by decide)]
    exact last_zero N (i + 1) acc

theorem last_set : ∀ (N k i acc : Nat), k < N → lastM ((List.replicate N 0).set k 1) i acc = i + k
  | 0, k, i, acc, h => by omega
  | N + 1, 0, i, acc, _ => by
    rw [List.replicate_succ, List.set_cons_zero, lastM, if_pos rfl, last_zero, Nat.add_zero]
  | N + 1, k + 1, i, acc, h => by
    rw [List.replicate_succ, List.set_cons_succ, lastM, if_neg (by decide), last_set N k (i + 1) acc (by omega)]
    omega

theorem boxF_count2 (c : Crit) (m : Int) : (boxF c m).count 2 = 0 := by
  rw [List.count_eq_zero]
  intro h
  rcases boxF_01 c m 2 h with g | g <;> omega

theorem boxF_count1 {c : Crit} (h : rightB c = true) {m : Int} (ho : m = -1 ∨ onB c m = true) : (boxF c m).count 1 = if m = -1 then 0 else 1 := by
  unfold boxF
  split
  · rw [List.count_eq_zero]
    intro h
    have := List.eq_of_mem_replicate h
    omega
  · next hm =>
    rcases ho with g | g
    · exact absurd g hm
    · have := (boxI_facts h g).2.1
      rw [List.count_set (by simpa using this)]
      simp [List.count_replicate]

theorem boxF_ok {c : Crit} (h : rightB c = true) (m : Int) : boxOk c (boxF c m) = true := by
  simp only [boxOk, Bool.and_eq_true, decide_eq_true_eq, List.all_eq_true]
  refine ⟨by rw [boxF_len]; exact (boxN_facts h).1.symm, fun x hx => ?_⟩
  rcases boxF_01 c m x hx with g | g <;> omega

theorem one_fill {c : Crit} (h : rightB c = true) {m : Int} (ho : (m == -1 || onB c m) = true) : oneM c (boxF c m) = (m, if m = -1 then 1 else 0) := by
  have ho' : m = -1 ∨ onB c m = true := by simpa using ho
  unfold oneM
  rw [boxF_count2, boxF_count1 h ho']
  by_cases hm : m = -1
  · simp [hm, classM]
  · have hi := boxI_facts h (ho'.resolve_left hm)
    simp only [if_neg hm]
    have e : lastM (boxF c m) 0 0 = boxI c m := by
      unfold boxF
      rw [if_neg hm, last_set _ _ _ _ hi.2.1, Nat.zero_add]
    simp [classM, e, hi.2.2.1]

theorem fill_facts : ∀ (c : List Crit) (ks : List Int), c.all rightB = true → scaledM c ks = true → boxesOk c (fillM c ks) = true ∧ marksM c (fillM c ks) = ks ∧ classesM c (fillM c ks) = ks.map (fun m => if m = -1 then 1 else 0)
  | [], [], _, _ => by simp [fillM, boxesOk, marksM, classesM]
  | [], _ :: _, _, h => by simp [scaledM] at h
  | _ :: _, [], _, h => by simp [scaledM] at h
  | c :: a, m :: l, h1, h2 => by
    simp only [List.all_cons, scaledM, Bool.and_eq_true] at h1 h2
    obtain ⟨g1, g2, g3⟩ := fill_facts a l h1.2 h2.2
    have e := one_fill h1.1 h2.1
    simp only [fillM, List.zipWith_cons_cons, boxesOk, marksM, classesM, List.map_cons, boxF_ok h1.1, Bool.true_and, e] at g1 g2 g3 ⊢
    exact ⟨g1, by rw [g2], by rw [g3]⟩

theorem scaled_len {c : List Crit} {ks : List Int} (h : scaledM c ks = true) : ks.length = c.length := by
  rcases Nat.decEq c.length ks.length with g | g
  · rw [scaledM_len g] at h; cases h
  · exact g.symm

theorem check_of {c : List Crit} {bs : List (List Int)} (hn : c.length ≤ 64) (ha : c.all rightB = true) (hb : boxesOk c bs = true) (hl : bs.length = c.length) : checkM c ⟨0, 0, 0, 0, bs⟩ = 0 := by
  have : ¬ 64 < c.length := by omega
  simp [checkM, errM, this, ha, hb, headOk, hl]

theorem agrees_of {c : List Crit} {s : Sheet} (h : checkM c s = 0) (ks : List Int) : agreesM c s ks = if scaledM c ks then (matchM (marksM c s.boxes) (classesM c s.boxes) ks, 0) else (false, 540) := by
  simp [agreesM, readM, h]

theorem classes_len {c : List Crit} {bs : List (List Int)} (h : bs.length = c.length) : (classesM c bs).length = c.length ∧ (marksM c bs).length = c.length := by simp [classesM, marksM, h]

/-- What SheetsMarked wants. -/
theorem marked_law {c : List Crit} {ks : List Int} (hn : c.length ≤ 64) (ha : c.all rightB = true) (hs : scaledM c ks = true) :
    readM c ⟨0, 0, 0, 0, fillM c ks⟩ = (ks, ks.map (fun m => if m = -1 then 1 else 0), 0) ∧ ∀ os, agreesM c ⟨0, 0, 0, 0, fillM c ks⟩ os = if scaledM c os then (sameM ks os, 0) else (false, 540) := by
  obtain ⟨h1, h2, h3⟩ := fill_facts c ks ha hs
  have hk := scaled_len hs
  have hc : checkM c ⟨0, 0, 0, 0, fillM c ks⟩ = 0 := check_of hn ha h1 (by simp [fillM, hk])
  refine ⟨by simp [readM, hc, h2, h3], fun os => ?_⟩
  rw [agrees_of hc]
  by_cases ho : scaledM c os = true
  · rw [if_pos ho, if_pos ho, h2, h3, match_same _ _ _ (by simp) (by rw [scaled_len ho]; simp [hk]) (by
      intro v hv
      obtain ⟨m, -, rfl⟩ := List.mem_map.1 hv
      split <;> omega)]
    have : (ks.map (fun m : Int => if m = -1 then (1 : Int) else 0)).all (fun v => decide (v ≤ 1)) = true := by
      rw [List.all_eq_true]
      intro v hv
      obtain ⟨m, -, rfl⟩ := List.mem_map.1 hv
      refine decide_eq_true ?_
      split <;> omega
    rw [this, Bool.true_and]
  · rw [if_neg ho, if_neg ho]

/-- What is read of a filled list of boxes in which one box is taken otherwise. -/
def errOne (c : Crit) (m : Int) (k : Nat) (b : Int) : Int × Int := oneM c ((boxF c m).set k b)

theorem err_one {c : Crit} (h : rightB c = true) {m : Int} (ho : (m == -1 || onB c m) = true) {k : Nat} (hk : k < boxN c) {b : Int} (hb : 0 ≤ b ∧ b ≤ 2) (hne : (boxF c m)[k]? ≠ some b) :
    (if m = -1 ∧ b = 1 then (errOne c m k b).2 = 0 ∧ (errOne c m k b).1 = c.lo + (k : Int) * c.st else (errOne c m k b).2 ≠ 0 ∧ (errOne c m k b).1 = -1) ∧
    (m = (errOne c m k b).1 → ¬ (errOne c m k b).2 ≤ 1) ∧ boxOk c ((boxF c m).set k b) = true := by
  have ho' : m = -1 ∨ onB c m = true := by simpa using ho
  have hkl : k < (boxF c m).length := by rw [boxF_len]; exact hk
  have hbox : boxOk c ((boxF c m).set k b) = true := by
    simp only [boxOk, Bool.and_eq_true, decide_eq_true_eq, List.all_eq_true]
    refine ⟨by rw [List.length_set, boxF_len]; exact (boxN_facts h).1.symm, fun x hx => ?_⟩
    rcases List.mem_or_eq_of_mem_set hx with hx | rfl
    · rcases boxF_01 c m x hx with g | g <;> omega
    · exact hb
  rw [List.getElem?_eq_getElem hkl] at hne
  have hne' : (boxF c m)[k] ≠ b := fun e => hne (by rw [e])
  have h01 : (boxF c m)[k] = 0 ∨ (boxF c m)[k] = 1 := boxF_01 c m _ (List.getElem_mem hkl)
  have k2 : ((boxF c m).set k b).count 2 = if b = 2 then 1 else 0 := by
    rw [List.count_set hkl, boxF_count2]
    by_cases e : b = 2 <;> simp [e]
  have k1 : ((boxF c m).set k b).count 1 = (if m = -1 then 0 else 1) - (if (boxF c m)[k] = 1 then 1 else 0) + (if b = 1 then 1 else 0) := by
    rw [List.count_set hkl, boxF_count1 h ho']
    simp
  have hlo := (right_step h).2.2.2.2.2
  have hst := (right_step h).1
  have hL : m = -1 → b = 1 → lastM ((boxF c m).set k b) 0 0 = k := by
    intro hm h1
    rw [h1]
    simp only [boxF, if_pos hm]
    rw [last_set _ _ _ _ hk, Nat.zero_add]
  have hz : m = -1 → (boxF c m)[k] = 0 := by
    intro hm
    simp [boxF, hm]
  have E : errOne c m k b = (if classM ((((boxF c m).set k b).count 2 : Nat) : Int) ((((boxF c m).set k b).count 1 : Nat) : Int) = 0 then c.lo + (lastM ((boxF c m).set k b) 0 0 : Nat) * c.st else -1, classM ((((boxF c m).set k b).count 2 : Nat) : Int) ((((boxF c m).set k b).count 1 : Nat) : Int)) := rfl
  rw [E, k2, k1]
  have hks : 0 ≤ (k : Int) * c.st := Int.mul_nonneg (by omega) (by omega)
  clear E k1 k2 hne ho ho'
  generalize lastM ((boxF c m).set k b) 0 0 = L at *
  generalize (boxF c m)[k] = z at *
  clear hkl
  refine ⟨?_, ?_, hbox⟩
  · by_cases hm : m = -1
    · have hz0 := hz hm
      by_cases h1 : b = 1
      · have hl := hL hm h1
        subst hl
        simp [hm, h1, hz0, classM]
      · have h2 : b = 2 := by omega
        simp [h2, classM]
    · by_cases h2 : b = 2
      · simp [h2, classM]
      · by_cases h1 : b = 1
        · have hz0 : z = 0 := by omega
          simp [h1, hm, hz0, classM]
        · have hz0 : z = 1 := by omega
          simp [h1, h2, hm, hz0, classM]
  · by_cases hm : m = -1
    · have hz0 := hz hm
      by_cases h1 : b = 1
      · have hl := hL hm h1
        subst hl
        simp [hm, h1, hz0, classM]
        omega
      · have h2 : b = 2 := by omega
        simp [h2, classM]
    · by_cases h2 : b = 2
      · simp [h2, classM]
      · by_cases h1 : b = 1
        · have hz0 : z = 0 := by omega
          simp [h1, hm, hz0, classM]
        · have hz0 : z = 1 := by omega
          simp [h1, h2, hm, hz0, classM]
end Go.Proofs.Ythbbefkmnahnlaa
