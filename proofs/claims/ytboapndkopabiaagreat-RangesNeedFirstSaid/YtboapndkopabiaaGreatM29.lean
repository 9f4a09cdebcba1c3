/- Lemmas and walks (Spn1 Spn2). No statement is proved here. -/
import Derived.Test.YtboapndkopabiaaGreatM26
set_option linter.unusedVariables false
set_option linter.unusedSimpArgs false
namespace Go.Proofs.YtboapndkopabiaaGreat
section
open Go.RowKit Go.Shelf
attribute [local go_sem] Oper.semAt_some
def GR (w : World) (M : List Nat) (x : Rg) (e : Ending) (w' : World) : Prop := ∃ u, e = .returned (.tuple #[u, .int .i64 0]) ∧ GW w' M u x ∧ Below w.heap.size w w'
set_option maxHeartbeats 4000000 in
theorem spick_min {M : List Nat} {va vb : Value} {a b : Rt} {w : World} (hM : Bel M w) (ha : QW w M va a) (hb : QW w M vb b) (oa : a.ok) (ob : b.ok) (hf : Fine a b) :
 Calls Tryz.prog 80 #[va, vb, .int .i64 1] w (QR w M (minT a b)) := by
 refine wid ?_
 obtain ⟨p1, q1, A1, n1, c1, B1, m1, d1, rfl, qa⟩ := QC.of ha
 obtain ⟨p2, q2, A2, n2, c2, B2, m2, d2, rfl, qb⟩ := QC.of hb
 obtain ⟨W1, hW1, F1⟩ := nam ((((Fr.nil w).a w.heap.size [.bool p1, .slice A1 n1 c1, .bool q1, .slice B1 m1 d1] 31).a (w.heap.size + 1) [.bool p2, .slice A2 n2 c2, .bool q2, .slice B2 m2 d2] 31).a4 (w.heap.size + 1 + 1) 31)
 refine op1 F1 ?_; intros
 have hM1 : Bel ((w.heap.size + 1 + 1) :: M) W1 := (hM.le F1.bl.size).cons (F1.lt (w.heap.size + 1 + 1) [.bool false, .slice none 0 0, .bool false, .slice none 0 0] (by simp))
 have X := Hd6 ((qa.more (b := w.heap.size + 1 + 1) (by omega)).go F1.bl) ((qb.more (b := w.heap.size + 1 + 1) (by omega)).go F1.bl) hM1 oa ob hf
 have F := Hd F1
 clear ha hb qa qb hM oa ob hf F1 hM1
 rcases cmpQ_range a b with hc | hc | hc
 all_goals (
  have HC := Hd hc; have HR := Hd (show minT a b = if cmpQ a b = -1 then a else if cmpQ a b = 0 then a else b by unfold minT; (try rw [cmpQ_swap a b]); rw [hc]; simp); rw [hc] at HR; clear hc; refine ent Tryz.func80 rfl Tryz.ntmps80 ?_
  gi_wp2_with (refine Cl 36 (rqCmp_any (M := (w.heap.size + 1 + 1) :: M) (a := a) (b := b) X.out.2.2.1 X.out.1.qw X.out.2.1.qw X.out.2.2.2.1 X.out.2.2.2.2.1 X.out.2.2.2.2.2) ?_
               rintro e w2 ⟨rfl, hb2⟩; rw [HC.out]; have F2 := F.out.go hb2; refine op1 F2 ?_; intros; have G2 := Hd3 F2 (X.out.1.go hb2) (X.out.2.1.go hb2)
               clear hb2 F2)
  have hx := fun i u hu => (G2.out.1.at_ (w.heap.size + 1 + 1) [.bool false, .slice none 0 0, .bool false, .slice none 0 0] (by simp) i u hu).1
  first
   | (obtain ⟨wF, hwF, t0, t1, t2, t3, hQ, bF⟩ := fin4 (M := M) (hx 0 _ rfl) (hx 1 _ rfl) (hx 2 _ rfl) (hx 3 _ rfl) (x := a) G2.out.2.1.num.sl G2.out.2.1.den.sl G2.out.2.1.num.neg G2.out.2.1.den.neg G2.out.1.bl (by omega)
      rw [hwF]
      exact ⟨rfl, .tuple #[.agg #[.bool p1, .slice A1 n1 c1, .bool q1, .slice B1 m1 d1], .int .i64 0], by simp [results, go_sem, t0, t1, t2, t3], _, rfl, (by rw [HR.out]; simpa using hQ), bF⟩)
   | (obtain ⟨wF, hwF, t0, t1, t2, t3, hQ, bF⟩ := fin4 (M := M) (hx 0 _ rfl) (hx 1 _ rfl) (hx 2 _ rfl) (hx 3 _ rfl) (x := b) G2.out.2.2.num.sl G2.out.2.2.den.sl G2.out.2.2.num.neg G2.out.2.2.den.neg G2.out.1.bl (by omega)
      rw [hwF]
      exact ⟨rfl, .tuple #[.agg #[.bool p2, .slice A2 n2 c2, .bool q2, .slice B2 m2 d2], .int .i64 0], by simp [results, go_sem, t0, t1, t2, t3], _, rfl, (by rw [HR.out]; simpa using hQ), bF⟩))
set_option maxHeartbeats 4000000 in
theorem spick_max {M : List Nat} {va vb : Value} {a b : Rt} {w : World} (hM : Bel M w) (ha : QW w M va a) (hb : QW w M vb b) (oa : a.ok) (ob : b.ok) (hf : Fine a b) :
 Calls Tryz.prog 80 #[va, vb, .int .i64 (-1)] w (QR w M (maxT a b)) := by
 refine wid ?_
 obtain ⟨p1, q1, A1, n1, c1, B1, m1, d1, rfl, qa⟩ := QC.of ha
 obtain ⟨p2, q2, A2, n2, c2, B2, m2, d2, rfl, qb⟩ := QC.of hb
 obtain ⟨W1, hW1, F1⟩ := nam ((((Fr.nil w).a w.heap.size [.bool p1, .slice A1 n1 c1, .bool q1, .slice B1 m1 d1] 31).a (w.heap.size + 1) [.bool p2, .slice A2 n2 c2, .bool q2, .slice B2 m2 d2] 31).a4 (w.heap.size + 1 + 1) 31)
 refine op1 F1 ?_; intros
 have hM1 : Bel ((w.heap.size + 1 + 1) :: M) W1 := (hM.le F1.bl.size).cons (F1.lt (w.heap.size + 1 + 1) [.bool false, .slice none 0 0, .bool false, .slice none 0 0] (by simp))
 have X := Hd6 ((qa.more (b := w.heap.size + 1 + 1) (by omega)).go F1.bl) ((qb.more (b := w.heap.size + 1 + 1) (by omega)).go F1.bl) hM1 oa ob hf
 have F := Hd F1
 clear ha hb qa qb hM oa ob hf F1 hM1
 rcases cmpQ_range a b with hc | hc | hc
 all_goals (
  have HC := Hd hc; have HR := Hd (show maxT a b = if cmpQ a b = -1 then b else if cmpQ a b = 0 then a else a by unfold maxT; (try rw [cmpQ_swap a b]); rw [hc]; simp); rw [hc] at HR; clear hc; refine ent Tryz.func80 rfl Tryz.ntmps80 ?_
  gi_wp2_with (refine Cl 36 (rqCmp_any (M := (w.heap.size + 1 + 1) :: M) (a := a) (b := b) X.out.2.2.1 X.out.1.qw X.out.2.1.qw X.out.2.2.2.1 X.out.2.2.2.2.1 X.out.2.2.2.2.2) ?_
               rintro e w2 ⟨rfl, hb2⟩; rw [HC.out]; have F2 := F.out.go hb2; refine op1 F2 ?_; intros; have G2 := Hd3 F2 (X.out.1.go hb2) (X.out.2.1.go hb2)
               clear hb2 F2)
  have hx := fun i u hu => (G2.out.1.at_ (w.heap.size + 1 + 1) [.bool false, .slice none 0 0, .bool false, .slice none 0 0] (by simp) i u hu).1
  first
   | (obtain ⟨wF, hwF, t0, t1, t2, t3, hQ, bF⟩ := fin4 (M := M) (hx 0 _ rfl) (hx 1 _ rfl) (hx 2 _ rfl) (hx 3 _ rfl) (x := a) G2.out.2.1.num.sl G2.out.2.1.den.sl G2.out.2.1.num.neg G2.out.2.1.den.neg G2.out.1.bl (by omega)
      rw [hwF]
      exact ⟨rfl, .tuple #[.agg #[.bool p1, .slice A1 n1 c1, .bool q1, .slice B1 m1 d1], .int .i64 0], by simp [results, go_sem, t0, t1, t2, t3], _, rfl, (by rw [HR.out]; simpa using hQ), bF⟩)
   | (obtain ⟨wF, hwF, t0, t1, t2, t3, hQ, bF⟩ := fin4 (M := M) (hx 0 _ rfl) (hx 1 _ rfl) (hx 2 _ rfl) (hx 3 _ rfl) (x := b) G2.out.2.2.num.sl G2.out.2.2.den.sl G2.out.2.2.num.neg G2.out.2.2.den.neg G2.out.1.bl (by omega)
      rw [hwF]
      exact ⟨rfl, .tuple #[.agg #[.bool p2, .slice A2 n2 c2, .bool q2, .slice B2 m2 d2], .int .i64 0], by simp [results, go_sem, t0, t1, t2, t3], _, rfl, (by rw [HR.out]; simpa using hQ), bF⟩))
set_option maxHeartbeats 4000000 in
theorem sspan_any {M : List Nat} {va vb : Value} {a b : Rt} {w : World} (ha : QW w M va a) (hb : QW w M vb b) :
 Calls Tryz.prog 77 #[va, .int .i64 0, vb, .int .i64 0] w (GR w M (a, b)) := by
 refine wid ?_
 obtain ⟨p1, q1, A1, n1, c1, B1, m1, d1, rfl, qa⟩ := QC.of ha
 obtain ⟨p2, q2, A2, n2, c2, B2, m2, d2, rfl, qb⟩ := QC.of hb
 obtain ⟨W1, hW1, F1⟩ := nam ((((Fr.nil w).a w.heap.size [.bool p1, .slice A1 n1 c1, .bool q1, .slice B1 m1 d1] 31).a (w.heap.size + 1) [.bool p2, .slice A2 n2 c2, .bool q2, .slice B2 m2 d2] 31).a8 (w.heap.size + 1 + 1) 33)
 refine op1 F1 ?_; intros
 have hz := fun i u hu => (F1.at_ (w.heap.size + 1 + 1) zG (by simp) i u hu).1
 obtain ⟨wF, hwF, ⟨t0, t1, t2, t3⟩, ⟨t4, t5, t6, t7⟩, hG, bF⟩ := fin8 (M := M) (hz 0 _ rfl) (hz 1 _ rfl) (hz 2 _ rfl) (hz 3 _ rfl) (hz 4 _ rfl) (hz 5 _ rfl) (hz 6 _ rfl) (hz 7 _ rfl) (x := (a, b)) ((qa.more (b := w.heap.size + 1 + 1) (by omega)).go F1.bl) ((qb.more (b := w.heap.size + 1 + 1) (by omega)).go F1.bl) F1.bl (by omega)
 have HW := Hd (And.intro hwF (And.intro t0 (And.intro t1 (And.intro t2 (And.intro t3 (And.intro t4 (And.intro t5 (And.intro t6 (And.intro t7 (And.intro hG bF))))))))))
 clear ha hb qa qb F1 hz hwF t0 t1 t2 t3 t4 t5 t6 t7 hG bF
 refine ent Tryz.func77 rfl Tryz.ntmps77 ?_
 gi_wp2
 obtain ⟨hwF, t0, t1, t2, t3, t4, t5, t6, t7, hG, bF⟩ := HW.out
 rw [hwF]
 exact ⟨rfl, .tuple #[.agg #[.bool p1, .slice A1 n1 c1, .bool q1, .slice B1 m1 d1, .bool p2, .slice A2 n2 c2, .bool q2, .slice B2 m2 d2], .int .i64 0], by simp [results, go_sem, t0, t1, t2, t3, t4, t5, t6, t7], _, rfl, hG, bF⟩
end
section
open Go.RowKit Go.Shelf
attribute [local go_sem] Oper.semAt_some
theorem Fr.put4 {w W : World} {L : List (Nat × List Value)} {y : Nat} {a0 a1 a2 a3 : Value} (h : Fr w W (L ++ [(y, [a0, a1, a2, a3])])) (hL : ∀ b vs, (b, vs) ∈ L → b ≠ y) (v0 v1 v2 v3 : Value) :
 ∃ W', (((W.setCell ⟨y, 0, none⟩ v0).setCell ⟨y, 1, none⟩ v1).setCell ⟨y, 2, none⟩ v2).setCell ⟨y, 3, none⟩ v3 = W' ∧ Fr w W' (L ++ [(y, [v0, v1, v2, v3])]) ∧ (∀ s W0, s ≤ y → Below s W0 W → Below s W0 W') ∧ Keeps [y] W W' := by
 have hy : (y, [a0, a1, a2, a3]) ∈ L ++ [(y, [a0, a1, a2, a3])] := by simp
 have g := h.at_ _ _ hy
 have g0 := g 0 _ rfl
 have g1 := g 1 _ rfl
 have g2 := g 2 _ rfl
 have g3 := g 3 _ rfl
 have kp := ((((Keeps.refl [y] W).setCell (p := ⟨y, 0, none⟩) (.inl (by simp)) v0).setCell (p := ⟨y, 1, none⟩) (.inl (by simp)) v1).setCell (p := ⟨y, 2, none⟩) (.inl (by simp)) v2).setCell (p := ⟨y, 3, none⟩) (.inl (by simp)) v3
 have hB : ∀ s W0, s ≤ y → Below s W0 W → Below s W0 ((((W.setCell ⟨y, 0, none⟩ v0).setCell ⟨y, 1, none⟩ v1).setCell ⟨y, 2, none⟩ v2).setCell ⟨y, 3, none⟩ v3) := fun s W0 hs hb => (((hb.setCell (p := ⟨y, 0, none⟩) hs v0).setCell (p := ⟨y, 1, none⟩) hs v1).setCell (p := ⟨y, 2, none⟩) hs v2).setCell (p := ⟨y, 3, none⟩) hs v3
 have hown : ∀ i u, [v0, v1, v2, v3][i]? = some u → ((((W.setCell ⟨y, 0, none⟩ v0).setCell ⟨y, 1, none⟩ v1).setCell ⟨y, 2, none⟩ v2).setCell ⟨y, 3, none⟩ v3).cell? ⟨y, i, none⟩ = some u ∧ ((((W.setCell ⟨y, 0, none⟩ v0).setCell ⟨y, 1, none⟩ v1).setCell ⟨y, 2, none⟩ v2).setCell ⟨y, 3, none⟩ v3).frozen? ⟨y, i, none⟩ = false := by
  intro i u hu
  match i, hu with
  | 0, hu => simp only [List.getElem?_cons_zero, List.getElem?_cons_succ, Option.some.injEq] at hu; subst hu; exact ⟨by simp [go_sem, g0.1, g1.1, g2.1, g3.1], by simp [go_sem, g0.2, g1.2, g2.2, g3.2]⟩
  | 1, hu => simp only [List.getElem?_cons_zero, List.getElem?_cons_succ, Option.some.injEq] at hu; subst hu; exact ⟨by simp [go_sem, g0.1, g1.1, g2.1, g3.1], by simp [go_sem, g0.2, g1.2, g2.2, g3.2]⟩
  | 2, hu => simp only [List.getElem?_cons_zero, List.getElem?_cons_succ, Option.some.injEq] at hu; subst hu; exact ⟨by simp [go_sem, g0.1, g1.1, g2.1, g3.1], by simp [go_sem, g0.2, g1.2, g2.2, g3.2]⟩
  | 3, hu => simp only [List.getElem?_cons_zero, List.getElem?_cons_succ, Option.some.injEq] at hu; subst hu; exact ⟨by simp [go_sem, g0.1, g1.1, g2.1, g3.1], by simp [go_sem, g0.2, g1.2, g2.2, g3.2]⟩
  | i + 4, hu => simp at hu
 generalize (((W.setCell ⟨y, 0, none⟩ v0).setCell ⟨y, 1, none⟩ v1).setCell ⟨y, 2, none⟩ v2).setCell ⟨y, 3, none⟩ v3 = W' at kp hB hown
 have hge := h.ge _ _ hy
 refine ⟨W', rfl, ⟨hB _ _ hge h.bl, fun b vs hm i u hu => ?_, fun b vs hm => ?_, fun b vs hm => ?_⟩, hB, kp⟩
 · rcases List.mem_append.1 hm with hm | hm
   · have hm' : (b, vs) ∈ L ++ [(y, [a0, a1, a2, a3])] := List.mem_append_left _ hm
     have hk := kp.block b (h.lt _ _ hm') (by simp [hL _ _ hm]); have := h.at_ _ _ hm' i u hu; exact ⟨by rw [← this.1]; simp only [World.cell?, hk], by rw [← this.2]; simp only [World.frozen?, hk]⟩
   · simp only [List.mem_singleton, Prod.mk.injEq] at hm
     obtain ⟨rfl, rfl⟩ := hm; exact hown i u hu
 · refine Nat.lt_of_lt_of_le ?_ kp.size
   rcases List.mem_append.1 hm with hm | hm
   · exact h.lt _ _ (List.mem_append_left _ hm)
   · simp only [List.mem_singleton, Prod.mk.injEq] at hm
     obtain ⟨rfl, rfl⟩ := hm; exact h.lt _ _ hy
 · rcases List.mem_append.1 hm with hm | hm
   · exact h.ge _ _ (List.mem_append_left _ hm)
   · simp only [List.mem_singleton, Prod.mk.injEq] at hm
     obtain ⟨rfl, rfl⟩ := hm; exact hge
section
variable {M : List Nat} {A B A1 A2 : Option Addr} {n c m l n1 c1 n2 c2 : Nat} {ins regs : List Rg} {op a b x3 x4 : Int} {r : RatR} {p q : Bool} {w : World}
set_option maxRecDepth 20000 in
set_option maxHeartbeats 8000000 in
theorem sstp1_any (hM : Bel M w) (hx : XC w M r p q A1 n1 c1 A2 n2 c2) (hr : ratOk r = true) :
 Calls Tryz.prog 37 #[.agg #[.int .i64 1, .int .i64 a, .int .i64 b, .int .i64 x3, .int .i64 x4, .bool p, .slice A1 n1 c1, .bool q, .slice A2 n2 c2], .slice A n c, .slice B m l] w (GR w M (decQ r, decQ r)) := by
 refine wid ?_
 obtain ⟨W1, hW1, F1⟩ := nam (((Fr.nil w).a w.heap.size [.int .i64 1, .int .i64 a, .int .i64 b, .int .i64 x3, .int .i64 x4, .bool p, .slice A1 n1 c1, .bool q, .slice A2 n2 c2] 55).a8 (w.heap.size + 1) 33)
 have FO := F1
 refine op1 FO ?_; intros
 have hx1 := (hx.more (k := w.heap.size + 1) (by omega)).go F1.bl
 have hM1 : Bel ((w.heap.size + 1) :: M) W1 := (hM.le F1.bl.size).cons (F1.ltn 1)
 have F := Hd F1
 have hins := F1.nth 0
 have hz := F1.nth 1
 clear hx hM F1 FO
 have qc := hx1.qc hr
 obtain ⟨wF, hwF, ⟨t0, t1, t2, t3⟩, ⟨t4, t5, t6, t7⟩, hG, bF⟩ := fin8 (M := M) (hz 0 _ rfl) (hz 1 _ rfl) (hz 2 _ rfl) (hz 3 _ rfl) (hz 4 _ rfl) (hz 5 _ rfl) (hz 6 _ rfl) (hz 7 _ rfl) (x := (decQ r, decQ r)) qc qc F.out.bl (by omega)
 have HW := Hd (And.intro hwF (And.intro t0 (And.intro t1 (And.intro t2 (And.intro t3 (And.intro t4 (And.intro t5 (And.intro t6 (And.intro t7 (And.intro hG bF))))))))))
 clear hx1 hM1 qc hwF t0 t1 t2 t3 t4 t5 t6 t7 hG bF hr hins hz
 refine ent Tryz.func37 rfl Tryz.ntmps37 ?_
 gi_wp2
 obtain ⟨hwF, t0, t1, t2, t3, t4, t5, t6, t7, hG, bF⟩ := HW.out
 rw [hwF]
 exact ⟨rfl, .tuple #[.agg #[.bool p, .slice A1 n1 c1, .bool q, .slice A2 n2 c2, .bool p, .slice A1 n1 c1, .bool q, .slice A2 n2 c2], .int .i64 0], by simp [results, go_sem, t0, t1, t2, t3, t4, t5, t6, t7], _, rfl, hG, bF⟩
set_option maxRecDepth 20000 in
set_option maxHeartbeats 8000000 in
theorem sstp2_any (hM : Bel M w) (hx : XC w M r p q A1 n1 c1 A2 n2 c2) (hi : SlG w M A n c ins) (ha : belowB a n = true) :
 Calls Tryz.prog 37 #[.agg #[.int .i64 2, .int .i64 a, .int .i64 b, .int .i64 x3, .int .i64 x4, .bool p, .slice A1 n1 c1, .bool q, .slice A2 n2 c2], .slice A n c, .slice B m l] w (GR w M (regG ins a)) := by
 refine wid ?_
 obtain ⟨ka, rfl, hka⟩ := below_nat ha
 obtain ⟨W1, hW1, F1⟩ := nam (((Fr.nil w).a w.heap.size [.int .i64 2, .int .i64 (ka : Int), .int .i64 b, .int .i64 x3, .int .i64 x4, .bool p, .slice A1 n1 c1, .bool q, .slice A2 n2 c2] 55).a8 (w.heap.size + 1) 33)
 have FO := F1
 refine op1 FO ?_; intros
 have hx1 := (hx.more (k := w.heap.size + 1) (by omega)).go F1.bl
 have hM1 : Bel ((w.heap.size + 1) :: M) W1 := (hM.le F1.bl.size).cons (F1.ltn 1)
 have F := Hd F1
 have hins := F1.nth 0
 have hz := F1.nth 1
 clear hx hM F1 FO
 have hl1 : SlG W1 ((w.heap.size + 1) :: M) A n c ins := (hi.more (b := w.heap.size + 1) (by omega)).go F.out.bl
 have hsm := hl1.small
 obtain ⟨b3, o3, p3, q3, A3, n3, c3, B3, m3, d3, p4, q4, A4, n4, c4, B4, m4, d4, rfl, ⟨h0, h1, h2, h3⟩, ⟨h4, h5, h6, h7⟩, alo, ahi⟩ := hl1.at_ hka
 obtain ⟨wF, hwF, ⟨t0, t1, t2, t3⟩, ⟨t4, t5, t6, t7⟩, hG, bF⟩ := fin8 (M := M) (hz 0 _ rfl) (hz 1 _ rfl) (hz 2 _ rfl) (hz 3 _ rfl) (hz 4 _ rfl) (hz 5 _ rfl) (hz 6 _ rfl) (hz 7 _ rfl) (x := regG ins ka) alo ahi F.out.bl (by omega)
 have HW := Hd (And.intro hwF (And.intro t0 (And.intro t1 (And.intro t2 (And.intro t3 (And.intro t4 (And.intro t5 (And.intro t6 (And.intro t7 (And.intro hG bF))))))))))
 clear hx1 hM1 hi hl1 alo ahi hwF t0 t1 t2 t3 t4 t5 t6 t7 hG bF hins hz ha
 refine ent Tryz.func37 rfl Tryz.ntmps37 ?_
 gi_wp2
 obtain ⟨hwF, t0, t1, t2, t3, t4, t5, t6, t7, hG, bF⟩ := HW.out
 rw [hwF]
 exact ⟨rfl, .tuple #[.agg #[.bool p3, .slice A3 n3 c3, .bool q3, .slice B3 m3 d3, .bool p4, .slice A4 n4 c4, .bool q4, .slice B4 m4 d4], .int .i64 0], by simp [results, go_sem, t0, t1, t2, t3, t4, t5, t6, t7], _, rfl, hG, bF⟩
end
end
namespace U
open Go.RowKit Go.Shelf
attribute [local go_sem] Oper.semAt_some
set_option maxRecDepth 100000 in
theorem walkS2 {p : Prop} (h : p := by
 have hins := F1.nth 0
 have FO := F1
 refine op1 FO ?_; intros
 have hM1 : Bel ((w.heap.size + 1) :: M) W1 := (hM.le F1.bl.size).cons (F1.ltn 1)
 have F := Hd F1
 clear hx hM F1 FO
 have hl1 : SlG W1 ((w.heap.size + 1) :: M) B m l regs := (hl.more (b := w.heap.size + 1) (by omega)).go F.out.bl
 have hsm := hl1.small
 clear hl
 obtain ⟨b3, o3, p3, q3, A3, n3, c3, B3, m3, d3, p4, q4, A4, n4, c4, B4, m4, d4, rfl, ⟨h0, h1, h2, h3⟩, ⟨h4, h5, h6, h7⟩, alo, ahi⟩ := hl1.at_ hka
 obtain ⟨b5, o5, p5, q5, A5, n5, c5, B5, m5, d5, p6, q6, A6, n6, c6, B6, m6, d6, e0, ⟨k0, k1, k2, k3⟩, ⟨k4, k5, k6, k7⟩, blo, bhi⟩ := hl1.at_ hkb
 obtain ⟨rfl, rfl⟩ : b3 = b5 ∧ o3 = o5 := by simpa using e0
 obtain ⟨yl1, yl2⟩ := BB.out.1 _ _ blo bhi
 have X := Hd7 alo ahi yl1 yl2 (show C8 W1 b3 (o3 + ka * 8) _ _ _ _ _ _ _ _ from ⟨h0, h1, h2, h3, h4, h5, h6, h7⟩) (show C8 W1 b3 (o3 + kb * 8) _ _ _ _ _ _ _ _ from ⟨k0, k1, k2, k3, k4, k5, k6, k7⟩) hM1
 obtain ⟨sb1, hsb1⟩ : ∃ s, W1.heap.size = s := ⟨_, rfl⟩
 have Hsb1 := Hd hsb1
 clear hsb1
 have v0 := stays_s Hsb1.out h0
 have v1 := stays_s Hsb1.out h1
 have v2 := stays_s Hsb1.out h2
 have v3 := stays_s Hsb1.out h3
 have v4 := stays_s Hsb1.out h4
 have v5 := stays_s Hsb1.out h5
 have v6 := stays_s Hsb1.out h6
 have v7 := stays_s Hsb1.out h7
 have v0' := stays_s Hsb1.out k0
 have v1' := stays_s Hsb1.out k1
 have v2' := stays_s Hsb1.out k2
 have v3' := stays_s Hsb1.out k3
 have v4' := stays_s Hsb1.out k4
 have v5' := stays_s Hsb1.out k5
 have v6' := stays_s Hsb1.out k6
 have v7' := stays_s Hsb1.out k7
 have v8 := stays_s Hsb1.out (hins 1 _ rfl)
 have v9 := stays_s Hsb1.out (hins 2 _ rfl)
 clear hM1 alo ahi blo bhi yl1 yl2 h0 h1 h2 h3 h4 h5 h6 h7 k0 k1 k2 k3 k4 k5 k6 k7 e0 ha hb hins hl1
 refine ent Tryz.func37 rfl Tryz.ntmps37 ?_
 gi_wp2
 refine region_E_np sb1 18 (by kernel_rfl) (by kernel_rfl) ?_
 refine E_rd 0 ?_; refine E_rd 1 ?_; refine E_rd 2 ?_; refine E_rd 3 ?_; refine E_rd 4 ?_; refine E_rd 5 ?_; refine E_rd 6 ?_; refine E_rd 7 ?_; refine E_rd 8 ?_; refine E_rd 9 ?_; refine E_rd 10 ?_; refine E_rd 11 ?_
 obtain ⟨M', hM1⟩ : ∃ M', (w.heap.size + 1) :: M = M' := ⟨_, rfl⟩
 obtain ⟨wc, hwc⟩ : ∃ V, (W1).drew = V := ⟨_, rfl⟩
 have trM : Bel ((w.heap.size + 1) :: M) W1 → Bel M' wc := fun h => by rw [← hM1, ← hwc]; exact h
 have tr : ∀ {r : Rt} {p q : Bool} {A : Option Addr} {n c : Nat} {B : Option Addr} {m d : Nat}, QC W1 ((w.heap.size + 1) :: M) r p q A n c B m d → QC wc M' r p q A n c B m d := fun h => by rw [← hM1, ← hwc]; exact h.drew
 have FC := Hd (hwc ▸ (F.out).drew)
 have BC := Hd (show Below W1.heap.size W1 wc by rw [← hwc]; exact (Below.refl _ _).drew)
 rw [hwc]
 clear hwc
 iterate 2 (all_goals (refine E_by [12, 16] (A_c ?_ (A_c ?_ A_n)) <;> (first
  | exact Arm.no
  | (refine Arm.mk 12 fun K hK => ?_
     gi_wp2; refine Cm (GG.out.1 (trM X.out.2.2.2.2.2.2) (tr X.out.1).qw (tr X.out.2.2.1).qw HO.out.1 HO.out.2.1 HO.out.2.2.1) ?_; rintro e wc ⟨u2, rfl, z2, hb2⟩; obtain ⟨p21, q21, A21, n21, c21, B21, m21, d21, rfl, qc9⟩ := QC.of z2; have QZ := Hd qc9; replace FC := Hd (FC.out.go hb2); replace BC := Hd (BC.out.trans (hb2.mono BC.out.size)); refine hK _ _ ⟨?_, ?_⟩; clear hK K
     · exact Keeps.of_below hb2 _
     refine lit ?_; clear z2 hb2 qc9 trM tr
     refine E_rd 13 ?_; refine E_rd 14 ?_; refine E_rd 15 ?_)
  | (refine Arm.mk 16 fun K hK => ?_
     obtain ⟨y21, hy⟩ : ∃ y, wc.heap.size = y := ⟨_, rfl⟩
     obtain ⟨wc, hV, hb2, FV⟩ := nam2 (w := wc) (FC.out.a4 y21 31 hy.symm)
     obtain ⟨M', hM2⟩ : ∃ N, y21 :: M' = N := ⟨_, rfl⟩
     have hl := Nat.le_of_eq hy
     first
      | replace trM : Bel ((w.heap.size + 1) :: M) W1 → Bel M' wc := fun h => by rw [← hM2]; exact (Bel.le (trM h) hb2.size).cons FV.lst
        replace tr : ∀ {r : Rt} {p q : Bool} {A : Option Addr} {n c : Nat} {B : Option Addr} {m d : Nat}, QC W1 ((w.heap.size + 1) :: M) r p q A n c B m d → QC wc M' r p q A n c B m d := fun h => by rw [← hM2]; exact ((tr h).more hl).go hb2
      | (replace QZ := Hd ((QZ.out.more hl).go hb2); rw [hM2] at QZ)
     replace FC := Hd FV; have HY := Hd (hy ▸ BC.out.size); replace BC := Hd (BC.out.trans (hb2.mono BC.out.size)); gi_wp2; refine ⟨Keeps.of_below hb2 _, ?_⟩; refine lit ?_
     try rw [hy]
     clear FV hV hy hl hb2))))
 all_goals
  subst hM2; subst hM1; have HZ := Hd4 FC.out QZ.out BC.out HY.out; clear FC QZ BC HY
 all_goals
  clear v0 v1 v2 v3 v4 v5 v6 v7 v0' v1' v2' v3' v4' v5' v6' v7' v8 v9; obtain ⟨W3, hW3, F6, hB6, kp6⟩ := Fr.put4 (y := y21) HZ.out.1 (fun b vs hm => Nat.ne_of_lt (Nat.lt_of_lt_of_le ((F.out).lt b vs hm) HZ.out.2.2.2)) (.bool p21) (.slice A21 n21 c21) (.bool q21) (.slice B21 m21 d21); have FZ := HZ.out.1; refine op1 FZ ?_; intros; refine op1 F6 ?_; intros; have HS1 := Hd3 F6 (HZ.out.2.1.keepY kp6) (hB6 _ _ HZ.out.2.2.2 HZ.out.2.2.1); have kU := Keeps.of_one (s := sb1) kp6 (Hsb1.out ▸ HZ.out.2.2.2); clear FZ F6 hB6 kp6 HZ
  refine E_al 17 fun K hK => ?_; gi_wp2
  refine ⟨kU, ?_⟩; refine lit ?_; clear kU
  refine E_nl 1 ?_; refine tls fun K hK K' hK' => ?_; gi_wp2; refine tail_nil _ ?_; simp only [npost]; gi_wp2
  obtain ⟨h0, h1, h2, h3, h4, h5, h6, h7⟩ := X.out.2.2.2.2.1.go HS1.out.2.2; obtain ⟨k0, k1, k2, k3, k4, k5, k6, k7⟩ := X.out.2.2.2.2.2.1.go HS1.out.2.2; have hins := HS1.out.1.nth 0
  obtain ⟨sb2, hsb2⟩ : ∃ s, W3.heap.size = s := ⟨_, rfl⟩
  have Hsb2 := Hd hsb2; clear hsb2; have v0 := stays_s Hsb2.out h0; have v1 := stays_s Hsb2.out h1; have v2 := stays_s Hsb2.out h2; have v3 := stays_s Hsb2.out h3; have v4 := stays_s Hsb2.out h4; have v5 := stays_s Hsb2.out h5; have v6 := stays_s Hsb2.out h6; have v7 := stays_s Hsb2.out h7; have v0' := stays_s Hsb2.out k0; have v1' := stays_s Hsb2.out k1; have v2' := stays_s Hsb2.out k2; have v3' := stays_s Hsb2.out k3; have v4' := stays_s Hsb2.out k4; have v5' := stays_s Hsb2.out k5; have v6' := stays_s Hsb2.out k6; have v7' := stays_s Hsb2.out k7; have v8 := stays_s Hsb2.out (hins 1 _ rfl); have v9 := stays_s Hsb2.out (hins 2 _ rfl); clear h0 h1 h2 h3 h4 h5 h6 h7 k0 k1 k2 k3 k4 k5 k6 k7 hins hW3; refine region_E_np sb2 18 (by kernel_rfl) (by kernel_rfl) ?_; refine E_rd 0 ?_; refine E_rd 1 ?_; refine E_rd 2 ?_; refine E_rd 3 ?_; refine E_rd 4 ?_; refine E_rd 5 ?_; refine E_rd 6 ?_; refine E_rd 7 ?_; refine E_rd 8 ?_; refine E_rd 9 ?_; refine E_rd 10 ?_; refine E_rd 11 ?_
  obtain ⟨M', hM1⟩ : ∃ M', (w.heap.size + 1) :: M = M' := ⟨_, rfl⟩
  obtain ⟨wc, hwc⟩ : ∃ V, (W3).drew = V := ⟨_, rfl⟩
  have trM : Bel ((w.heap.size + 1) :: M) W3 → Bel M' wc := fun h => by rw [← hM1, ← hwc]; exact h
  have tr : ∀ {r : Rt} {p q : Bool} {A : Option Addr} {n c : Nat} {B : Option Addr} {m d : Nat}, QC W3 ((w.heap.size + 1) :: M) r p q A n c B m d → QC wc M' r p q A n c B m d := fun h => by rw [← hM1, ← hwc]; exact h.drew
  have FC := Hd (hwc ▸ (HS1.out.1).drew); have BC := Hd (show Below W3.heap.size W3 wc by rw [← hwc]; exact (Below.refl _ _).drew); rw [hwc]; clear hwc
  iterate 2 (all_goals (refine E_by [12, 16] (A_c ?_ (A_c ?_ A_n)) <;> (first
   | exact Arm.no
   | (refine Arm.mk 12 fun K hK => ?_
      gi_wp2; refine Cm (GG.out.1 (trM (Bel.le X.out.2.2.2.2.2.2 HS1.out.2.2.size)) (tr (X.out.2.1.go HS1.out.2.2)).qw (tr (X.out.2.2.2.1.go HS1.out.2.2)).qw HO.out.2.2.2.1 HO.out.2.2.2.2.1 HO.out.2.2.2.2.2) ?_; rintro e wc ⟨u2, rfl, z2, hb2⟩; obtain ⟨p22, q22, A22, n22, c22, B22, m22, d22, rfl, qc9⟩ := QC.of z2; have QZ := Hd qc9; replace FC := Hd (FC.out.go hb2); replace BC := Hd (BC.out.trans (hb2.mono BC.out.size)); refine hK _ _ ⟨?_, ?_⟩; clear hK K
      · exact Keeps.of_below hb2 _
      refine lit ?_; clear z2 hb2 qc9 trM tr
      refine E_rd 13 ?_; refine E_rd 14 ?_; refine E_rd 15 ?_)
   | (refine Arm.mk 16 fun K hK => ?_
      obtain ⟨y22, hy⟩ : ∃ y, wc.heap.size = y := ⟨_, rfl⟩
      obtain ⟨wc, hV, hb2, FV⟩ := nam2 (w := wc) (FC.out.a4 y22 31 hy.symm)
      obtain ⟨M', hM2⟩ : ∃ N, y22 :: M' = N := ⟨_, rfl⟩
      have hl := Nat.le_of_eq hy
      first
       | replace trM : Bel ((w.heap.size + 1) :: M) W3 → Bel M' wc := fun h => by rw [← hM2]; exact (Bel.le (trM h) hb2.size).cons FV.lst
         replace tr : ∀ {r : Rt} {p q : Bool} {A : Option Addr} {n c : Nat} {B : Option Addr} {m d : Nat}, QC W3 ((w.heap.size + 1) :: M) r p q A n c B m d → QC wc M' r p q A n c B m d := fun h => by rw [← hM2]; exact ((tr h).more hl).go hb2
       | (replace QZ := Hd ((QZ.out.more hl).go hb2); rw [hM2] at QZ)
      replace FC := Hd FV; have HY := Hd (hy ▸ BC.out.size); replace BC := Hd (BC.out.trans (hb2.mono BC.out.size)); gi_wp2; refine ⟨Keeps.of_below hb2 _, ?_⟩; refine lit ?_
      try rw [hy]
      clear FV hV hy hl hb2))))
  all_goals
   subst hM2; subst hM1; have HZ := Hd4 FC.out QZ.out BC.out HY.out; clear FC QZ BC HY
  all_goals
   clear v0 v1 v2 v3 v4 v5 v6 v7 v0' v1' v2' v3' v4' v5' v6' v7' v8 v9; obtain ⟨W4, hW4, F6, hB6, kp6⟩ := Fr.put4 (y := y22) HZ.out.1 (fun b vs hm => Nat.ne_of_lt (Nat.lt_of_lt_of_le ((HS1.out.1).lt b vs hm) HZ.out.2.2.2)) (.bool p22) (.slice A22 n22 c22) (.bool q22) (.slice B22 m22 d22); have FZ := HZ.out.1; refine op1 FZ ?_; intros; refine op1 F6 ?_; intros; have HS2 := Hd3 F6 (HZ.out.2.1.keepY kp6) (hB6 _ _ HZ.out.2.2.2 HZ.out.2.2.1); have kU := Keeps.of_one (s := sb2) kp6 (Hsb2.out ▸ HZ.out.2.2.2); clear FZ F6 hB6 kp6 HZ
   refine E_al 17 fun K hK => ?_; gi_wp2
   refine ⟨kU, ?_⟩; refine lit ?_; clear kU
   refine E_nl 1 ?_; refine tls fun K hK K' hK' => ?_; gi_wp2; refine tail_nil _ ?_; simp only [npost]; gi_wp2
   refine Cl 77 (sspan_any (M := (w.heap.size + 1) :: M) (HS1.out.2.1.go HS2.out.2.2).qw HS2.out.2.1.qw) ?_; rintro e w9 ⟨u9, rfl, ⟨p8, q8, A8, n8, c8, B8, m8, d8, p9, q9, A9, n9, c9, B9, m9, d9, rfl, qlo, qhi⟩, hb9⟩; have F9 := HS2.out.1.go hb9; refine op1 F9 ?_; intros; have G9 := Hd3 F9 qlo qhi; clear F9 qlo qhi hb9; gi_wp2; have hz := G9.out.1.nth 1; obtain ⟨wF, hwF, ⟨t0, t1, t2, t3⟩, ⟨t4, t5, t6, t7⟩, hG, bF⟩ := fin8 (M := M) (hz 0 _ rfl) (hz 1 _ rfl) (hz 2 _ rfl) (hz 3 _ rfl) (hz 4 _ rfl) (hz 5 _ rfl) (hz 6 _ rfl) (hz 7 _ rfl) (x := (_, _)) G9.out.2.1 G9.out.2.2 G9.out.1.bl (by omega); rw [hwF]
   exact ⟨rfl, .tuple #[.agg #[.bool p8, .slice A8 n8 c8, .bool q8, .slice B8 m8 d8, .bool p9, .slice A9 n9 c9, .bool q9, .slice B9 m9 d9], .int .i64 0], by simp [results, go_sem, t0, t1, t2, t3, t4, t5, t6, t7], _, rfl, hG, bF⟩) : p := h
section
variable {M : List Nat} {A B A1 A2 : Option Addr} {n c m l n1 c1 n2 c2 : Nat} {ins regs : List Rg} {op a b x3 x4 : Int} {r : RatR} {p q : Bool} {w : World}
set_option maxRecDepth 20000 in
set_option maxHeartbeats 32000000 in
theorem sstp3_any (hM : Bel M w) (hx : XC w M r p q A1 n1 c1 A2 n2 c2) (hl : SlG w M B m l regs) (ha : belowB a m = true) (hb : belowB b m = true) (oa : OkG (regG regs a)) (ob : OkG (regG regs b)) :
 Calls Tryz.prog 37 #[.agg #[.int .i64 3, .int .i64 a, .int .i64 b, .int .i64 x3, .int .i64 x4, .bool p, .slice A1 n1 c1, .bool q, .slice A2 n2 c2], .slice A n c, .slice B m l] w (GR w M (addG (regG regs a) (regG regs b))) := by
 refine wid ?_
 obtain ⟨ka, rfl, hka⟩ := below_nat ha
 obtain ⟨kb, rfl, hkb⟩ := below_nat hb
 obtain ⟨W1, hW1, F1⟩ := nam (((Fr.nil w).a w.heap.size [.int .i64 3, .int .i64 (ka : Int), .int .i64 (kb : Int), .int .i64 x3, .int .i64 x4, .bool p, .slice A1 n1 c1, .bool q, .slice A2 n2 c2] 55).a8 (w.heap.size + 1) 33)
 have GG := Hd2 (@rqAdd_any) True.intro
 have BB := Hd2 (fun (p q : Prop) (x : p) (y : q) => And.intro x y) True.intro
 have HO := Hd6 oa.1.1 ob.1.1 (oa.1.2.fine ob.1.2) oa.2.1 ob.2.1 (oa.2.2.fine ob.2.2)
 clear oa ob
 exact walkS2
set_option maxRecDepth 20000 in
set_option maxHeartbeats 32000000 in
theorem sstp4_any (hM : Bel M w) (hx : XC w M r p q A1 n1 c1 A2 n2 c2) (hl : SlG w M B m l regs) (ha : belowB a m = true) (hb : belowB b m = true) (oa : OkG (regG regs a)) (ob : OkG (regG regs b)) :
 Calls Tryz.prog 37 #[.agg #[.int .i64 4, .int .i64 a, .int .i64 b, .int .i64 x3, .int .i64 x4, .bool p, .slice A1 n1 c1, .bool q, .slice A2 n2 c2], .slice A n c, .slice B m l] w (GR w M (subG (regG regs a) (regG regs b))) := by
 refine wid ?_
 obtain ⟨ka, rfl, hka⟩ := below_nat ha
 obtain ⟨kb, rfl, hkb⟩ := below_nat hb
 obtain ⟨W1, hW1, F1⟩ := nam (((Fr.nil w).a w.heap.size [.int .i64 4, .int .i64 (ka : Int), .int .i64 (kb : Int), .int .i64 x3, .int .i64 x4, .bool p, .slice A1 n1 c1, .bool q, .slice A2 n2 c2] 55).a8 (w.heap.size + 1) 33)
 have GG := Hd2 (@rqSub_any) True.intro
 have BB := Hd2 (fun (p q : Prop) (x : p) (y : q) => And.intro y x) True.intro
 have HO := Hd6 oa.1.1 ob.2.1 (oa.1.2.fine ob.2.2) oa.2.1 ob.1.1 (oa.2.2.fine ob.1.2)
 clear oa ob
 exact walkS2
set_option maxRecDepth 20000 in
set_option maxHeartbeats 32000000 in
theorem sstp6_any (hM : Bel M w) (hx : XC w M r p q A1 n1 c1 A2 n2 c2) (hl : SlG w M B m l regs) (ha : belowB a m = true) (hb : belowB b m = true) (oa : OkG (regG regs a)) (ob : OkG (regG regs b)) :
 Calls Tryz.prog 37 #[.agg #[.int .i64 6, .int .i64 a, .int .i64 b, .int .i64 x3, .int .i64 x4, .bool p, .slice A1 n1 c1, .bool q, .slice A2 n2 c2], .slice A n c, .slice B m l] w (GR w M (minG (regG regs a) (regG regs b))) := by
 refine wid ?_
 obtain ⟨ka, rfl, hka⟩ := below_nat ha
 obtain ⟨kb, rfl, hkb⟩ := below_nat hb
 obtain ⟨W1, hW1, F1⟩ := nam (((Fr.nil w).a w.heap.size [.int .i64 6, .int .i64 (ka : Int), .int .i64 (kb : Int), .int .i64 x3, .int .i64 x4, .bool p, .slice A1 n1 c1, .bool q, .slice A2 n2 c2] 55).a8 (w.heap.size + 1) 33)
 have GG := Hd2 (@spick_min) True.intro
 have BB := Hd2 (fun (p q : Prop) (x : p) (y : q) => And.intro x y) True.intro
 have HO := Hd6 oa.1.1 ob.1.1 (oa.1.2.fine ob.1.2) oa.2.1 ob.2.1 (oa.2.2.fine ob.2.2)
 clear oa ob
 exact walkS2
set_option maxRecDepth 20000 in
set_option maxHeartbeats 32000000 in
theorem sstp7_any (hM : Bel M w) (hx : XC w M r p q A1 n1 c1 A2 n2 c2) (hl : SlG w M B m l regs) (ha : belowB a m = true) (hb : belowB b m = true) (oa : OkG (regG regs a)) (ob : OkG (regG regs b)) :
 Calls Tryz.prog 37 #[.agg #[.int .i64 7, .int .i64 a, .int .i64 b, .int .i64 x3, .int .i64 x4, .bool p, .slice A1 n1 c1, .bool q, .slice A2 n2 c2], .slice A n c, .slice B m l] w (GR w M (maxG (regG regs a) (regG regs b))) := by
 refine wid ?_
 obtain ⟨ka, rfl, hka⟩ := below_nat ha
 obtain ⟨kb, rfl, hkb⟩ := below_nat hb
 obtain ⟨W1, hW1, F1⟩ := nam (((Fr.nil w).a w.heap.size [.int .i64 7, .int .i64 (ka : Int), .int .i64 (kb : Int), .int .i64 x3, .int .i64 x4, .bool p, .slice A1 n1 c1, .bool q, .slice A2 n2 c2] 55).a8 (w.heap.size + 1) 33)
 have GG := Hd2 (@spick_max) True.intro
 have BB := Hd2 (fun (p q : Prop) (x : p) (y : q) => And.intro x y) True.intro
 have HO := Hd6 oa.1.1 ob.1.1 (oa.1.2.fine ob.1.2) oa.2.1 ob.2.1 (oa.2.2.fine ob.2.2)
 clear oa ob
 exact walkS2
end
end U
end Go.Proofs.YtboapndkopabiaaGreat
