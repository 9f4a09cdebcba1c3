/- A list of rows of integers that the call itself has made: each row in a block of its own. No statement is proved here. -/
import Derived.Test.YthbbefkmnahnlaaCut
namespace Go.Proofs.Ythbbefkmnahnlaa
open Go.RowKit

abbrev gridCell (p : Nat × List Int) : Value := .slice (some ⟨p.1, 0, none⟩) p.2.length p.2.length

structure Grid (S : Nat) (W : World) (v : Value) (j : Nat) (rs : List (Nat × List Int)) : Prop where
  own : W.ownsRow S 23 1 v j (rs.map gridCell)
  nodup : (rs.map Prod.fst).Nodup
  row : ∀ p, p ∈ rs → S ≤ p.1 ∧ v.ownBlock ≠ some p.1 ∧ W.heap[p.1]? = some (.cells (p.2.map (Value.int .i64)).toArray 3 (0, 0)) ∧ (∀ x, x ∈ p.2 → i64 x) ∧ p.2.length ≤ 1000000

section
variable {S : Nat} {W W' : World} {v : Value} {j : Nat} {rs : List (Nat × List Int)}
theorem Grid.len (h : Grid S W v j rs) : rs.length = j := by simpa using h.own.1

theorem lt_of_block {W : World} {g : Nat} {o : Obj} (h : W.heap[g]? = some o) : g < W.heap.size := (Array.getElem?_eq_some_iff.1 h).1

theorem own_go {base : Nat} {e : TypeId} {size : Nat} {n : Nat} {xs : List Value} (h : W.ownsRow base e size v n xs) (hb : ∀ k, k < W.heap.size → v.ownBlock = some k → W'.heap[k]? = W.heap[k]?) : W'.ownsRow base e size v n xs := by
  refine ⟨h.1, ?_⟩
  rcases h.2 with g | ⟨g, cap, cur, rfl, h1, h2, h3⟩
  · exact .inl g
  · exact .inr ⟨g, cap, cur, rfl, h1, (hb g (lt_of_block h2) rfl).trans h2, h3⟩

theorem Grid.go (h : Grid S W v j rs) (hb : Below W.heap.size W W') : Grid S W' v j rs :=
  ⟨own_go h.own fun k hk _ => hb.block k hk, h.nodup, fun p hp => by
    obtain ⟨h1, h2, h3, h4⟩ := h.row p hp
    exact ⟨h1, h2, (hb.block _ (lt_of_block h3)).trans h3, h4⟩⟩

theorem Grid.empty (w : World) : Grid w.heap.size (w.alloc (.cells #[] 23)) (.slice (some ⟨w.heap.size, 0, none⟩) 0 0) 0 [] :=
  ⟨by simpa using World.ownsRow_lit (base := w.heap.size) (size := 1) (e := 23) w #[] 0 (Nat.le_refl _) (by simp [maxLen]) rfl, by simp, by simp⟩

theorem list_info : (Try.prog.info? 23).map (fun i => (i.zero, i.size, i.bytes)) = some (some (.slice none 0 0), 1, 24) := by kernel_rfl

theorem Grid.snoc (h : Grid S W v j rs) (hS : S ≤ W.heap.size) (hj : j ≤ 1000000) {g : Nat} {l : List Int} (hg : S ≤ g) (hv : v.ownBlock ≠ some g) (hn : g ∉ rs.map Prod.fst) (hh : W.heap[g]? = some (.cells (l.map (Value.int .i64)).toArray 3 (0, 0))) (hl : ∀ x, x ∈ l → i64 x) (hlen : l.length ≤ 1000000) :
    ∃ v' W', (Builtin.append_ #[26, 26] 26 #[v, .slice (some ⟨W.heap.size, 0, none⟩) 1 1]).run Try.prog (W.alloc (.cells #[gridCell (g, l)] 23)) = .ok v' W' ∧ Grid S W' v' (j + 1) (rs ++ [(g, l)]) ∧ Below S W W' ∧ S ≤ W'.heap.size := by
  obtain ⟨i0, hi, hz0, hz1, hz2⟩ := info_parts list_info
  have hb : Below W.heap.size W (W.alloc (.cells #[gridCell (g, l)] 23)) := (Below.refl _ _).alloc (Nat.le_refl _) _
  have h1 := h.go hb
  have hsz : (W.alloc (.cells #[gridCell (g, l)] 23)).heap.size = W.heap.size + 1 := by simp
  obtain ⟨v', W', r1, r2, r3, _, r5⟩ := run_append_own_at (P := Try.prog) (w := W.alloc (.cells #[gridCell (g, l)] 23)) S 26 26 23 i0 (.slice none 0 0) 1 24 Try.underlying26 hi hz0 hz1 hz2 rfl (by decide) v j _ h1.own ⟨W.heap.size, 0, none⟩ 1 1 [gridCell (g, l)] rfl
    (by intro k u hu; match k, hu with | 0, hu => cases hu; simp [go_sem, Addr.add]) (by simp [Value.oneCell']) (by unfold maxLen; omega) (by omega) (by omega)
  have hvS : ∀ k, v.ownBlock = some k → S ≤ k := by
    intro k hk
    rcases h.own.2 with ⟨rfl, _⟩ | ⟨g', cap, cur, rfl, h1, _⟩
    · cases hk
    · cases hk; exact h1
  have hgl := lt_of_block hh
  refine ⟨v', W', r1, ⟨by rw [List.map_append]; exact r2, ?_, ?_⟩, (hb.mono hS).grown r3 (by omega) hvS, by have := r3.size; omega⟩
  · rw [List.map_append, List.nodup_append]
    refine ⟨h.nodup, by simp, ?_⟩
    intro a ha b hb e
    simp at hb
    subst hb; subst e
    exact hn ha
  · intro p hp
    have old : ∀ k, k < W.heap.size → v.ownBlock ≠ some k → W'.heap[k]? = W.heap[k]? := fun k hk hne => (r3.block k (by omega) (fun e => hne e.symm)).trans (hb.block k hk)
    have ne : ∀ k, k < W.heap.size → v.ownBlock ≠ some k → v'.ownBlock ≠ some k := by
      intro k hk hne
      rcases r5 with e | e
      · rw [e]; exact hne
      · rw [e, hsz]; intro e; have := Option.some.inj e; omega
    rcases List.mem_append.1 hp with hp | hp
    · obtain ⟨a1, a2, a3, a4⟩ := h.row p hp
      exact ⟨a1, ne _ (lt_of_block a3) a2, (old _ (lt_of_block a3) a2).trans a3, a4⟩
    · simp at hp
      subst hp
      exact ⟨hg, ne _ hgl hv, (old _ hgl hv).trans hh, hl, hlen⟩

theorem Grid.fresh (h : Grid S W v j rs) {g : Nat} (hg : W.heap.size ≤ g) : v.ownBlock ≠ some g ∧ g ∉ rs.map Prod.fst := by
  constructor
  · intro e
    rcases h.own.2 with ⟨rfl, _⟩ | ⟨g', cap, cur, rfl, _, h2, _⟩
    · cases e
    · have e' : g' = g := Option.some.inj e
      have := lt_of_block h2; omega
  · intro e
    obtain ⟨p, hp, rfl⟩ := List.mem_map.1 e
    have := lt_of_block (h.row p hp).2.2.1
    omega

theorem Grid.step (h : Grid S W v j rs) (hS : S ≤ W.heap.size) (hj : j ≤ 1000000) (hb : Below W.heap.size W W') {g N : Nat} {l : List Int} (hg : W.heap.size ≤ g) (hN : l.length = N) (hh : W'.heap[g]? = some (.cells (l.map (Value.int .i64)).toArray 3 (0, 0))) (hl : ∀ x, x ∈ l → x = 0 ∨ x = 1) (hlen : N ≤ 1000000) :
    ∃ v' W3, (Builtin.append_ #[26, 26] 26 #[v, .slice (some ⟨W'.heap.size, 0, none⟩) 1 1]).run Try.prog (W'.alloc (.cells #[.slice (some ⟨g, 0, none⟩) N N] 23)) = .ok v' W3 ∧ Grid S W3 v' (j + 1) (rs ++ [(g, l)]) ∧ Below S W' W3 ∧ S ≤ W3.heap.size := by
  subst hN
  obtain ⟨f1, f2⟩ := h.fresh hg
  exact (h.go hb).snoc (Nat.le_trans hS hb.size) hj (Nat.le_trans hS hg) f1 f2 hh (fun x hx => by unfold i64; rcases hl x hx with e | e <;> omega) hlen

/-- Row i is in a block of its own; a cell of it is written. -/
theorem Grid.set (h : Grid S W v j rs) {i : Nat} {g : Nat} {l : List Int} (hi : rs[i]? = some (g, l)) (k : Nat) (x : Int) (hx : i64 x) :
    Grid S (W.setCell ⟨g, k, none⟩ (.int .i64 x)) v j (rs.set i (g, l.set k x)) := by
  have hm := List.mem_of_getElem? hi
  obtain ⟨a1, a2, a3, a4, a5⟩ := h.row _ hm
  have hil : i < rs.length := (List.getElem?_eq_some_iff.1 hi).1
  have hgi : rs[i]'hil = (g, l) := (List.getElem?_eq_some_iff.1 hi).2
  have hfst : (rs.set i (g, l.set k x)).map Prod.fst = rs.map Prod.fst := by
    rw [List.map_set]
    refine List.ext_getElem? fun q => ?_
    rw [List.getElem?_set]
    split
    · next e => subst e; simp [hil, hgi]
    · rfl
  have hcell : (rs.set i (g, l.set k x)).map gridCell = rs.map gridCell := by
    rw [List.map_set]
    refine List.ext_getElem? fun q => ?_
    rw [List.getElem?_set]
    split
    · next e => subst e; simp [hil, hgi]
    · rfl
  refine ⟨?_, by rw [hfst]; exact h.nodup, ?_⟩
  · rw [hcell]
    exact own_go h.own fun q hq e => Below.heap_setCell _ _ _ q (by rintro rfl; exact a2 e)
  · intro p hp
    rw [List.mem_iff_getElem?] at hp
    obtain ⟨q, hq⟩ := hp
    rw [List.getElem?_set] at hq
    split at hq
    · next e =>
      subst e
      obtain rfl := Option.some.inj hq
      refine ⟨a1, a2, ?_, ?_, by simpa using a5⟩
      · simp only [World.setCell, Array.getElem?_modify, a3, if_true, Option.map_some]
        simp [List.map_set]
      · intro y hy
        rcases List.mem_or_eq_of_mem_set hy with hy | rfl
        · exact a4 y hy
        · exact hx
    · next e =>
      obtain ⟨b1, b2, b3, b4⟩ := h.row p (List.mem_of_getElem? hq)
      refine ⟨b1, b2, ?_, b4⟩
      rw [Below.heap_setCell _ _ _ _ ?_]
      · exact b3
      · intro e2
        have hnd := h.nodup
        have hql : q < rs.length := (List.getElem?_eq_some_iff.1 hq).1
        have h1 : (rs.map Prod.fst)[q]? = (rs.map Prod.fst)[i]? := by rw [List.getElem?_map, List.getElem?_map, hq, hi]; simp [e2]
        exact e (((List.getElem?_inj (by simpa using hql) hnd).1 h1).symm)

theorem Grid.sl (h : Grid S W v j rs) (hj : j ≤ 1000000) : ∃ O cO, v = .slice O j cO ∧ Sl (List Int) W [] O j cO (rs.map Prod.snd) := by
  have hl := h.len
  have rows : ∀ p, p ∈ rs → Sl Int W [] (some ⟨p.1, 0, none⟩) p.2.length p.2.length p.2 := by
    intro p hp
    obtain ⟨a1, a2, a3, a4, a5⟩ := h.row p hp
    refine ⟨rfl, Nat.le_refl _, by unfold capOk; omega, by omega, .inr ⟨p.1, 0, rfl, fun q x hq => ⟨[.int .i64 x], ⟨rfl, a4 x (List.mem_of_getElem? hq)⟩, by simp, fun r u hu => ?_⟩⟩⟩
    match r, hu with
    | 0, hu =>
      cases hu
      simp [World.cell?, a3, hq, show Rep.sz Int = 1 from rfl]
  rcases h.own.2 with ⟨rfl, rfl⟩ | ⟨g, cap, cur, rfl, _, hh, hnc, hcm, hsz, htk⟩
  · obtain rfl : rs = [] := List.length_eq_zero_iff.1 hl
    exact ⟨none, 0, rfl, rfl, Nat.le_refl _, by simp [capOk], by omega, .inl rfl⟩
  · refine ⟨_, cap, rfl, by simp [hl], hnc, by simpa [capOk, maxLen] using hcm, by omega, .inr ⟨g, 0, rfl, fun k x hk => ?_⟩⟩
    rw [List.getElem?_map] at hk
    obtain ⟨p, hp, rfl⟩ := Option.map_eq_some_iff.1 hk
    refine ⟨[gridCell p], ⟨_, _, _, rfl, rows p (List.mem_of_getElem? hp)⟩, by simp, fun q u hu => ?_⟩
    match q, hu with
    | 0, hu =>
      cases hu
      have h1 : (cur.toList.take (j * 1))[k]? = some (gridCell p) := by rw [htk, List.getElem?_map, hp]; rfl
      have hkn : k < j := by rw [← hl]; exact (List.getElem?_eq_some_iff.1 hp).1
      rw [List.getElem?_take_of_lt (by omega)] at h1
      simp only [Array.getElem?_toList] at h1
      simp [World.cell?, hh, h1, show Rep.sz (List Int) = 1 from rfl]
end
end Go.Proofs.Ythbbefkmnahnlaa
