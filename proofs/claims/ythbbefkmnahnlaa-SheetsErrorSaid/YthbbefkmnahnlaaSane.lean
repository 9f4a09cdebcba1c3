/- podiumlaw54.scale, .reads, .sane. No statement is proved here. -/
import Derived.Test.YthbbefkmnahnlaaRchk
namespace Go.Proofs.Ythbbefkmnahnlaa
open Go.RowKit Go.Shelf
attribute [local go_sem] Oper.semAt_some

theorem cell_new (w : World) (cs : Array Value) (t : TypeId) {j : Nat} {v : Value} (h : cs[j]? = some v) : (w.alloc (.cells cs t)).cell? ⟨w.heap.size, j, none⟩ = some v := by
  simp [go_sem, h]

theorem Sl.ofCells {α : Type} [Rep1 α] {w : World} {t : TypeId} {cs : List Value} {xs : List α} (n : Nat) (hn : xs.length = n) (hs : n ≤ 1000)
    (h : ∀ k x, xs[k]? = some x → ∃ es, Rep.rd w [] x es ∧ ∀ j u, es[j]? = some u → cs[k * Rep.sz α + j]? = some u) : Sl α (w.alloc (.cells cs.toArray t)) [] (some ⟨w.heap.size, 0, none⟩) n n xs := by
  refine ⟨hn, Nat.le_refl _, by unfold capOk; omega, by omega, .inr ⟨_, _, rfl, fun k x hk => ?_⟩⟩
  obtain ⟨es, h1, h2⟩ := h k x hk
  refine ⟨es, Rep.keep h1 ((Keeps.refl _ _).alloc _), by simp, fun j u hu => ?_⟩
  have := cell_new w cs.toArray t (j := 0 + k * Rep.sz α + j) (v := u) (by rw [List.getElem?_toArray, Nat.zero_add]; exact h2 j u hu)
  exact this

theorem Sl.crit1 (w : World) (t : TypeId) (c : Crit) (h : c.ok) : Sl Crit (w.alloc (.cells #[.string c.name, .int .i64 c.lo, .int .i64 c.hi, .int .i64 c.st, .int .i64 c.how, .int .i64 c.tr, .bool c.rev] t)) [] (some ⟨w.heap.size, 0, none⟩) 1 1 [c] := by
  refine Sl.ofCells (cs := c.cells) 1 rfl (by omega) ?_
  intro k x hk
  match k with
  | 0 => cases hk; exact ⟨_, ⟨rfl, h⟩, fun j u hu => by rw [Nat.zero_mul, Nat.zero_add]; exact hu⟩
  | k + 1 => cases hk

theorem Sl.ints (w : World) (t : TypeId) (xs : List Int) (n : Nat) (hn : xs.length = n) (hs : n ≤ 1000) (h : ∀ x, x ∈ xs → i64 x) : Sl Int (w.alloc (.cells (xs.map (Value.int .i64)).toArray t)) [] (some ⟨w.heap.size, 0, none⟩) n n xs := by
  refine Sl.ofCells (cs := xs.map (Value.int .i64)) n hn hs ?_
  intro k x hk
  refine ⟨_, ⟨rfl, h x (List.mem_of_getElem? hk)⟩, fun j u hu => ?_⟩
  match j with
  | 0 => cases hu; rw [show Rep.sz Int = 1 from rfl, Nat.mul_one, Nat.add_zero, List.getElem?_map, hk]; rfl
  | j + 1 => cases hu

theorem Sl.list1 {w : World} {A : Option Addr} {n c : Nat} {xs : List Int} (t : TypeId) (h : Sl Int w [] A n c xs) : Sl (List Int) (w.alloc (.cells #[.slice A n c] t)) [] (some ⟨w.heap.size, 0, none⟩) 1 1 [xs] := by
  refine Sl.ofCells (cs := [.slice A n c]) 1 rfl (by omega) ?_
  intro k x hk
  match k with
  | 0 => cases hk; exact ⟨_, ⟨A, n, c, rfl, h⟩, fun j u hu => by rw [Nat.zero_mul, Nat.zero_add]; exact hu⟩
  | k + 1 => cases hk

abbrev scaleC : Crit := ⟨⟨#[]⟩, 2, 6, 2, 1, 0, false⟩

theorem scale_any (w : World) : Calls Try.prog 17 #[] w fun e w' => ∃ A c, e = .returned (.slice A 1 c) ∧ Sl Crit w' [] A 1 c [scaleC] ∧ Below w.heap.size w w' := by
  refine (callsIn_wide (n := 10)).1 ?_
  refine callsIn_of_wp Try.func17 rfl trivial ?_ rfl; simp only [Try.ntmps17, List.size_toArray, List.length_nil, Nat.reduceSub, Array.replicate_succ, Array.replicate_zero, List.push_toArray, List.append_toArray, List.nil_append, List.cons_append]
  gi_wp2
  go_ret
  exact ⟨_, _, rfl, Sl.crit1 w _ scaleC ⟨by unfold i64; decide, by unfold i64; decide, by unfold i64; decide, by unfold i64; decide, by unfold i64; decide⟩, (Below.refl _ _).alloc (Nat.le_refl _) _⟩

/-- What reads answers of the boxes bs. -/
def readsM (mark class_ : Int) (bs : List Int) : Bool :=
  decide ((readM [scaleC] ⟨0, 0, 0, 0, [bs]⟩).2.2 = 0) && sameM (readM [scaleC] ⟨0, 0, 0, 0, [bs]⟩).1 [mark] && sameM (readM [scaleC] ⟨0, 0, 0, 0, [bs]⟩).2.1 [class_]

set_option maxHeartbeats 4000000 in
theorem reads_any {M : List Nat} (mark class_ : Int) (h1 : i64 mark) (h2 : i64 class_) (A : Option Addr) (n cp : Nat) (bs : List Int) (w : World) (hb : Sl Int w M A n cp bs) :
    Calls Try.prog 16 #[.int .i64 mark, .int .i64 class_, .slice A n cp] w fun e w' => e = .returned (.bool (readsM mark class_ bs)) ∧ Below w.heap.size w w' := by
  refine (callsIn_wide (n := 10)).1 ?_
  have HM := Lib.hid h1
  have HC := Lib.hid h2
  have H := Lib.hid (hb.less (M' := []) (by simp))
  clear h1 h2 hb
  refine callsIn_of_wp Try.func16 rfl trivial ?_ rfl; simp only [Try.ntmps16, List.size_toArray, List.length_cons, List.length_nil, Nat.reduceAdd, Nat.reduceSub, Array.replicate_succ, Array.replicate_zero, List.push_toArray, List.append_toArray, List.nil_append, List.cons_append]
  generalize hr : readsM mark class_ bs = r
  unfold readsM at hr
  have hlen : (readM [scaleC] ⟨0, 0, 0, 0, [bs]⟩).2.2 = 0 → (readM [scaleC] ⟨0, 0, 0, 0, [bs]⟩).1.length = 1 ∧ (readM [scaleC] ⟨0, 0, 0, 0, [bs]⟩).2.1.length = 1 := fun h => readM_len h
  generalize hq : readM [scaleC] ⟨0, 0, 0, 0, [bs]⟩ = q at *
  obtain ⟨q1, q2, qe⟩ := q
  have HQ := Lib.hid hq
  have HR := Lib.hid hr
  have HL := Lib.hid hlen
  clear hq hr hlen
  by_cases he : qe = 0
  · subst he
    have HL2 := Lib.hid (show q1.length = 1 ∧ q2.length = 1 from HL.out rfl)
    clear HL
    simp only [decide_true, Bool.true_and] at HR
    generalize hv1 : sameM q1 [mark] = v1 at HR
    have HV1 := Lib.hid hv1
    clear hv1
    cases v1
    all_goals gi_wp2_with (first
      | (refine ⟨trivial, ?_⟩; gi_at_call 17; refine (callsIn_wide.2 (scale_any _)).mono ?_; rintro e w1 ⟨A1, c1, rfl, hs1, hb1⟩; have HS1 := Lib.hid hs1; have HB1 := Lib.hid hb1; clear hs1 hb1)
      | (refine ⟨trivial, ?_⟩; gi_at_call 10; refine (callsIn_wide.2 (read_any A1 1 c1 [scaleC] 0 0 0 0 (some ⟨w1.heap.size, 0, none⟩) 1 1 [bs] _ (HS1.out.keep ((Keeps.refl _ _).alloc _)) (Sl.list1 _ (H.out.keep (Keeps.of_below HB1.out []))))).mono ?_; rw [HQ.out]; rintro e w2 ⟨A2, n2, c2, A3, n3, c3, rfl, hsl, hb2⟩; have HS2 := Lib.hid (hsl [] (by simp)); have HB2 := Lib.hid (HB1.out.trans (((Below.refl _ w1).alloc (Nat.le_refl _) _).trans (hb2.mono (by simp)) |>.mono HB1.out.size)); clear hsl hb2)
      | (have hh3 := HB3.out; clear hh3; refine ⟨trivial, ?_⟩; gi_at_call 12; refine (callsIn_wide.2 (same_any A3 _ n3 c3 1 1 q2 [class_] _ ((HS2.out.2.keep (Keeps.of_below HB3.out [])).keep ((Keeps.refl _ _).alloc _)) (Sl.ints _ _ [class_] 1 rfl (by omega) (by intro x hx; cases hx with | head => exact HC.out | tail _ h => cases h)) (by have := HS2.out.2.len; have := HL2.out.2; omega))).mono ?_; rintro e w4 ⟨rfl, hb4⟩; have HB4 := Lib.hid ((Below.refl _ w3).alloc (Nat.le_refl _) _ |>.trans (hb4.mono (by simp))); clear hb4)
      | (refine ⟨trivial, ?_⟩; gi_at_call 12; refine (callsIn_wide.2 (same_any A2 _ n2 c2 1 1 q1 [mark] _ (HS2.out.1.keep ((Keeps.refl _ _).alloc _)) (Sl.ints _ _ [mark] 1 rfl (by omega) (by intro x hx; cases hx with | head => exact HM.out | tail _ h => cases h)) (by have := HS2.out.1.len; have := HL2.out.1; omega))).mono ?_; rintro e w3 ⟨rfl, hb3⟩; have HB3 := Lib.hid ((Below.refl _ w2).alloc (Nat.le_refl _) _ |>.trans (hb3.mono (by simp))); clear hb3; rw [HV1.out])
      | (refine ⟨trivial, ?_⟩))
    all_goals go_ret
    · exact ⟨ret_bool (by rw [← HR.out]; rfl), HB2.out.trans (HB3.out.mono HB2.out.size)⟩
    · exact ⟨ret_bool (by rw [← HR.out]; rfl), (HB2.out.trans (HB3.out.mono HB2.out.size)).trans (HB4.out.mono (Nat.le_trans HB2.out.size HB3.out.size))⟩
  · have he2 : (qe == 0) = false := by simpa using he
    have hr0 : r = false := by rw [← HR.out]; simp [he]
    have HR0 := Lib.hid hr0
    clear hr0 he
    gi_wp2_with (first
      | (refine ⟨trivial, ?_⟩; gi_at_call 17; refine (callsIn_wide.2 (scale_any _)).mono ?_; rintro e w1 ⟨A1, c1, rfl, hs1, hb1⟩; have HS1 := Lib.hid hs1; have HB1 := Lib.hid hb1; clear hs1 hb1)
      | (refine ⟨trivial, ?_⟩; gi_at_call 10; refine (callsIn_wide.2 (read_any A1 1 c1 [scaleC] 0 0 0 0 (some ⟨w1.heap.size, 0, none⟩) 1 1 [bs] _ (HS1.out.keep ((Keeps.refl _ _).alloc _)) (Sl.list1 _ (H.out.keep (Keeps.of_below HB1.out []))))).mono ?_; rw [HQ.out]; rintro e w2 ⟨A2, n2, c2, A3, n3, c3, rfl, hsl, hb2⟩; have HS2 := Lib.hid (hsl [] (by simp)); have HB2 := Lib.hid (HB1.out.trans (((Below.refl _ w1).alloc (Nat.le_refl _) _).trans (hb2.mono (by simp)) |>.mono HB1.out.size)); clear hsl hb2)
      | (refine ⟨trivial, ?_⟩))
    go_ret
    exact ⟨ret_bool HR0.out.symm, HB2.out⟩
end Go.Proofs.Ythbbefkmnahnlaa
