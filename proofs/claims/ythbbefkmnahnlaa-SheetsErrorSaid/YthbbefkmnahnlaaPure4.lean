/- The plain law behind SheetsError: a filled sheet in which one box is taken otherwise. No statement is proved here. -/
import Derived.Test.YthbbefkmnahnlaaPure3
namespace Go.Proofs.Ythbbefkmnahnlaa
open Go.RowKit

theorem zip_set {β : Type} (f : Crit → List Int → β) : ∀ (c : List Crit) (bs : List (List Int)) (i : Nat) (x : Crit) (v : List Int), c[i]? = some x → List.zipWith f c (bs.set i v) = (List.zipWith f c bs).set i (f x v)
  | [], _, i, x, v, h => by simp at h
  | _ :: _, [], i, x, v, _ => by simp
  | c :: a, b :: l, 0, x, v, h => by
    simp at h
    subst h
    simp
  | c :: a, b :: l, i + 1, x, v, h => by
    simp only [List.set_cons_succ, List.zipWith_cons_cons]
    rw [zip_set f a l i x v (by simpa using h)]

theorem boxesOk_set : ∀ (c : List Crit) (bs : List (List Int)) (i : Nat) (x : Crit) (v : List Int), boxesOk c bs = true → c[i]? = some x → boxOk x v = true → boxesOk c (bs.set i v) = true
  | [], _, i, x, v, _, h, _ => by simp at h
  | _ :: _, [], i, x, v, h, _, _ => by simp [boxesOk] at h
  | c :: a, b :: l, 0, x, v, h1, h2, h3 => by
    simp at h2
    subst h2
    simp only [boxesOk, List.set_cons_zero, Bool.and_eq_true] at h1 ⊢
    exact ⟨h3, h1.2⟩
  | c :: a, b :: l, i + 1, x, v, h1, h2, h3 => by
    simp only [boxesOk, List.set_cons_succ, Bool.and_eq_true] at h1 ⊢
    exact ⟨h1.1, boxesOk_set a l i x v h1.2 (by simpa using h2) h3⟩

theorem match_at : ∀ (m x k : List Int), matchM m x k = true → ∀ (i : Nat) (a v q : Int), m[i]? = some a → x[i]? = some v → k[i]? = some q → a = q ∧ v ≤ 1
  | a :: m, v :: x, b :: k, h, 0, a', v', q, h1, h2, h3 => by
    simp at h1 h2 h3
    subst h1; subst h2; subst h3
    simp only [matchM, Bool.and_eq_true, beq_iff_eq, decide_eq_true_eq] at h
    exact ⟨h.1.1, h.1.2.2⟩
  | a :: m, v :: x, b :: k, h, i + 1, a', v', q, h1, h2, h3 => by
    simp only [matchM, Bool.and_eq_true] at h
    exact match_at m x k h.2 i a' v' q (by simpa using h1) (by simpa using h2) (by simpa using h3)
  | [], _, _, _, i, _, _, _, h1, _, _ => by simp at h1
  | _ :: _, [], _, _, i, _, _, _, _, h2, _ => by simp at h2
  | _ :: _, _ :: _, [], _, i, _, _, _, _, _, h3 => by simp at h3

theorem fill_at {c : List Crit} {ks : List Int} {i : Nat} {x : Crit} {m : Int} (h1 : c[i]? = some x) (h2 : ks[i]? = some m) : (fillM c ks)[i]? = some (boxF x m) := by
  simp [fillM, List.getElem?_zipWith, h1, h2]

/-- What SheetsError wants. -/
theorem error_law {c : List Crit} {ks : List Int} (hn : c.length ≤ 64) (ha : c.all rightB = true) (hs : scaledM c ks = true) {i : Nat} {x : Crit} {m : Int} (h1 : c[i]? = some x) (h2 : ks[i]? = some m)
    {k : Nat} (hk : k < boxN x) {b : Int} (hb : 0 ≤ b ∧ b ≤ 2) (hne : (boxF x m)[k]? ≠ some b) :
    readM c ⟨0, 0, 0, 0, (fillM c ks).set i ((boxF x m).set k b)⟩ = (ks.set i (errOne x m k b).1, (ks.map (fun m => if m = -1 then 1 else 0)).set i (errOne x m k b).2, 0) ∧
    agreesM c ⟨0, 0, 0, 0, (fillM c ks).set i ((boxF x m).set k b)⟩ ks = (false, 0) ∧
    (if m = -1 ∧ b = 1 then (errOne x m k b).2 = 0 ∧ (errOne x m k b).1 = x.lo + (k : Int) * x.st else (errOne x m k b).2 ≠ 0 ∧ (errOne x m k b).1 = -1) := by
  have hr : rightB x = true := List.all_eq_true.1 ha x (List.mem_of_getElem? h1)
  obtain ⟨e1, e2, e3⟩ := err_one hr (scaled_at hs i x m h1 h2) hk hb hne
  obtain ⟨f1, f2, f3⟩ := fill_facts c ks ha hs
  have hl := scaled_len hs
  have hc : checkM c ⟨0, 0, 0, 0, (fillM c ks).set i ((boxF x m).set k b)⟩ = 0 := check_of hn ha (boxesOk_set _ _ _ _ _ f1 h1 e3) (by simp [fillM, hl])
  have hm : marksM c ((fillM c ks).set i ((boxF x m).set k b)) = ks.set i (errOne x m k b).1 := by
    have := zip_set (fun c b => (oneM c b).1) c (fillM c ks) i x ((boxF x m).set k b) h1
    unfold marksM at f2 ⊢
    rw [this, f2]; rfl
  have hx : classesM c ((fillM c ks).set i ((boxF x m).set k b)) = (ks.map (fun m => if m = -1 then 1 else 0)).set i (errOne x m k b).2 := by
    have := zip_set (fun c b => (oneM c b).2) c (fillM c ks) i x ((boxF x m).set k b) h1
    unfold classesM at f3 ⊢
    rw [this, f3]; rfl
  have hil : i < ks.length := (List.getElem?_eq_some_iff.1 h2).1
  refine ⟨by simp [readM, hc, hm, hx], ?_, e1⟩
  rw [agrees_of hc, if_pos hs, hm, hx]
  cases hq : matchM (ks.set i (errOne x m k b).1) ((ks.map (fun m => if m = -1 then 1 else 0)).set i (errOne x m k b).2) ks with
  | false => rfl
  | true =>
    exfalso
    obtain ⟨g1, g2⟩ := match_at _ _ _ hq i _ _ _ (by rw [List.getElem?_set_self hil]) (by rw [List.getElem?_set_self (by simpa using hil)]) h2
    exact e2 g1.symm g2

theorem Grid.at {S : Nat} {W : World} {v : Value} {j : Nat} {rs : List (Nat × List Int)} (h : Grid S W v j rs) {i g : Nat} {l : List Int} (hi : rs[i]? = some (g, l)) :
    ∃ G cO, v = .slice (some ⟨G, 0, none⟩) j cO ∧ W.cell? ⟨G, i, none⟩ = some (.slice (some ⟨g, 0, none⟩) l.length l.length) ∧ (∀ k x, l[k]? = some x → W.cell? ⟨g, k, none⟩ = some (.int .i64 x) ∧ W.frozen? ⟨g, k, none⟩ = false) ∧ S ≤ g ∧ g < W.heap.size := by
  have hl := h.len
  have hil : i < rs.length := (List.getElem?_eq_some_iff.1 hi).1
  obtain ⟨a1, a2, a3, a4, a5⟩ := h.row _ (List.mem_of_getElem? hi)
  rcases h.own.2 with ⟨rfl, rfl⟩ | ⟨G, cap, cur, rfl, _, hh, hnc, hcm, hsz, htk⟩
  · omega
  · refine ⟨G, cap, rfl, ?_, fun k x hk => ?_, a1, lt_of_block a3⟩
    · have h1 : (cur.toList.take (j * 1))[i]? = some (gridCell (g, l)) := by rw [htk, List.getElem?_map, hi]; rfl
      rw [List.getElem?_take_of_lt (by omega)] at h1
      simp only [Array.getElem?_toList] at h1
      simp [World.cell?, hh, h1]
    · have a3' : W.heap[g]? = some (.cells (l.map (Value.int .i64)).toArray 3 (0, 0)) := a3
      constructor
      · simp [World.cell?, a3', hk]
      · simp [World.frozen?, a3']
end Go.Proofs.Ythbbefkmnahnlaa
