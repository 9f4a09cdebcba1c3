/- Lemmas and walks (Rng1 Ref2). No statement is proved here. -/
import Derived.Test.YtboapndkopabiaaGreatM17
set_option linter.unusedVariables false
set_option linter.unusedSimpArgs false
namespace Go.Proofs.YtboapndkopabiaaGreat
section
open Go.RowKit Go.Shelf
attribute [local go_sem] Oper.semAt_some
abbrev stopV (x : Int) : Value := .iface 97 (.agg #[.int .i64 x])
abbrev panS (x : Int) : Ending := .panicked [{ v := stopV x, recovered := false }]
theorem must_yes (x : Int) (w : World) : Calls Tryz.prog 31 #[.bool true, .int .i64 x] w fun e w' => e = .returned (.tuple #[]) ∧ w' = w := by
 refine wid ?_
 refine ent Tryz.func31 rfl Tryz.ntmps31 ?_
 gi_wp2
 go_end0
 exact ⟨rfl, rfl⟩
theorem must_no (x : Int) (w : World) : Calls Tryz.prog 31 #[.bool false, .int .i64 x] w fun e w' => e = panS x ∧ w' = w := by
 refine wid ?_
 refine ent Tryz.func31 rfl Tryz.ntmps31 ?_
 gi_wp2
 first
  | exact ⟨rfl, rfl⟩
  | exact ⟨rfl, rfl, rfl⟩
theorem getI_yes (z : Int) (w : World) : Calls Tryz.prog 58 #[.int .i64 z, .int .i64 0] w fun e w' => e = .returned (.int .i64 z) ∧ w' = w := by
 refine wid ?_
 refine ent Tryz.func58 rfl Tryz.ntmps58 ?_
 gi_wp2_with (refine Cl 31 (must_yes _ _) ?_; rintro e w2 ⟨rfl, rfl⟩)
 go_ret
 exact ⟨rfl, rfl⟩
set_option maxHeartbeats 1000000 in
theorem getQ_yes {M : List Nat} {v : Value} {x : Rt} {w : World} (hM : Bel M w) (h : QW w M v x) : Calls Tryz.prog 62 #[v, .int .i64 0] w fun e w' => ∃ u, e = .returned u ∧ QW w' M u x ∧ Below w.heap.size w w' := by
 refine wid ?_
 obtain ⟨p1, q1, A1, n1, c1, B1, m1, d1, rfl, qa⟩ := QC.of h
 obtain ⟨W1, hW1, F1⟩ := nam (((Fr.nil w).a w.heap.size [.bool p1, .slice A1 n1 c1, .bool q1, .slice B1 m1 d1] 31).a4 (w.heap.size + 1) 31)
 refine op1 F1 ?_; intros
 have qa2 := (qa.more (b := w.heap.size + 1) (by omega)).go F1.bl
 obtain ⟨wF, hwF, t0, t1, t2, t3, hQ, bF⟩ := fin4 (M := M) (F1.cel 1 0) (F1.cel 1 1) (F1.cel 1 2) (F1.cel 1 3) (x := x) qa2.num.sl qa2.den.sl qa2.num.neg qa2.den.neg F1.bl (by omega)
 have HW := Hd7 hwF t0 t1 t2 t3 hQ bF
 clear h hM qa qa2 F1 hwF t0 t1 t2 t3 hQ bF
 refine ent Tryz.func62 rfl Tryz.ntmps62 ?_
 gi_wp2_with (refine Cl 31 (must_yes _ _) ?_; rintro e w2 ⟨rfl, rfl⟩)
 rw [HW.out.1]
 exact ⟨rfl, .agg #[.bool p1, .slice A1 n1 c1, .bool q1, .slice B1 m1 d1], by simp [results, go_sem, HW.out.2.1, HW.out.2.2.1, HW.out.2.2.2.1, HW.out.2.2.2.2.1], _, rfl, HW.out.2.2.2.2.2.1, HW.out.2.2.2.2.2.2⟩
set_option maxHeartbeats 2000000 in
theorem less_any {M : List Nat} {va vb : Value} {a b : Rt} {w : World} (hM : Bel M w) (ha : QW w M va a) (hb : QW w M vb b) (oa : a.ok) (ob : b.ok) (hf : Fine a b) :
 Calls Tryz.prog 33 #[va, vb] w fun e w' => e = .returned (.bool (decide (cmpQ a b < 0))) ∧ Below w.heap.size w w' := by
 refine wid ?_
 obtain ⟨p1, q1, A1, n1, c1, B1, m1, d1, rfl, qa⟩ := QC.of ha
 obtain ⟨p2, q2, A2, n2, c2, B2, m2, d2, rfl, qb⟩ := QC.of hb
 obtain ⟨W1, hW1, F1⟩ := nam (((Fr.nil w).a w.heap.size [.bool p1, .slice A1 n1 c1, .bool q1, .slice B1 m1 d1] 31).a (w.heap.size + 1) [.bool p2, .slice A2 n2 c2, .bool q2, .slice B2 m2 d2] 31)
 refine op1 F1 ?_; intros
 obtain ⟨cc, hcc⟩ : ∃ cc, cmpQ a b = cc := ⟨_, rfl⟩
 rw [hcc]
 have X := Hd7 (qa.go F1.bl) (qb.go F1.bl) (hM.le F1.bl.size) oa ob hf hcc
 have F := Hd F1
 clear ha hb qa qb hM oa ob hf F1 hcc
 refine ent Tryz.func33 rfl Tryz.ntmps33 ?_
 gi_wp2_with (first
  | (refine ⟨trivial, ?_⟩; gi_at_call 58; have g := G2.out; clear g; refine Cn (getI_yes _ _) ?_; rintro e w3 ⟨rfl, rfl⟩)
  | (refine Cl 22 (qCmp_any (M := M) (a := a) (b := b) X.out.2.2.1 X.out.1.qw X.out.2.1.qw X.out.2.2.2.1 X.out.2.2.2.2.1 X.out.2.2.2.2.2.1) ?_
     rintro e w2 ⟨rfl, hb2⟩; rw [X.out.2.2.2.2.2.2]; have G2 := Hd (F.out.go hb2)
     clear hb2)
  | fail)
 go_ret
 exact ⟨rfl, G2.out.bl⟩
set_option maxHeartbeats 2000000 in
theorem more_any {M : List Nat} {va vb : Value} {a b : Rt} {w : World} (hM : Bel M w) (ha : QW w M va a) (hb : QW w M vb b) (oa : a.ok) (ob : b.ok) (hf : Fine a b) :
 Calls Tryz.prog 71 #[va, vb] w fun e w' => e = .returned (.bool (decide (cmpQ b a < 0))) ∧ Below w.heap.size w w' := by
 refine wid ?_
 obtain ⟨p1, q1, A1, n1, c1, B1, m1, d1, rfl, qa⟩ := QC.of ha
 obtain ⟨p2, q2, A2, n2, c2, B2, m2, d2, rfl, qb⟩ := QC.of hb
 obtain ⟨W1, hW1, F1⟩ := nam (((Fr.nil w).a w.heap.size [.bool p1, .slice A1 n1 c1, .bool q1, .slice B1 m1 d1] 31).a (w.heap.size + 1) [.bool p2, .slice A2 n2 c2, .bool q2, .slice B2 m2 d2] 31)
 refine op1 F1 ?_; intros
 obtain ⟨V, hV⟩ : ∃ V, decide (cmpQ b a < 0) = V := ⟨_, rfl⟩
 rw [hV]
 have X := Hd7 (qa.go F1.bl) (qb.go F1.bl) (hM.le F1.bl.size) oa ob hf hV
 have F := Hd F1
 clear ha hb qa qb hM oa ob hf F1 hV
 refine ent Tryz.func71 rfl Tryz.ntmps71 ?_
 gi_wp2_with (refine Cl 33 (less_any (M := M) (a := b) (b := a) X.out.2.2.1 X.out.2.1.qw X.out.1.qw X.out.2.2.2.2.1 X.out.2.2.2.1 X.out.2.2.2.2.2.1.swap) ?_
              rintro e w2 ⟨rfl, hb2⟩; rw [X.out.2.2.2.2.2.2]; have G2 := Hd (F.out.go hb2)
              clear hb2)
 go_ret
 exact ⟨rfl, G2.out.bl⟩
set_option maxHeartbeats 4000000 in
theorem first_less {M : List Nat} {va vb : Value} {a b : Rt} {w : World} (hM : Bel M w) (ha : QW w M va a) (hb : QW w M vb b) (oa : a.ok) (ob : b.ok) (hf : Fine a b) :
 Calls Tryz.prog 69 #[va, vb, .func (.func 33) #[] #[]] w fun e w' => ∃ u, e = .returned u ∧ QW w' M u (minT a b) ∧ Below w.heap.size w w' := by
 refine wid ?_
 obtain ⟨p1, q1, A1, n1, c1, B1, m1, d1, rfl, qa⟩ := QC.of ha
 obtain ⟨p2, q2, A2, n2, c2, B2, m2, d2, rfl, qb⟩ := QC.of hb
 obtain ⟨W1, hW1, F1⟩ := nam ((((Fr.nil w).a w.heap.size [.bool p1, .slice A1 n1 c1, .bool q1, .slice B1 m1 d1] 31).a (w.heap.size + 1) [.bool p2, .slice A2 n2 c2, .bool q2, .slice B2 m2 d2] 31).a4 (w.heap.size + 1 + 1) 31)
 refine op1 F1 ?_; intros
 have hM1 : Bel ((w.heap.size + 1 + 1) :: M) W1 := (hM.le F1.bl.size).cons (F1.lt (w.heap.size + 1 + 1) [.bool false, .slice none 0 0, .bool false, .slice none 0 0] (by simp))
 have X := Hd6 ((qa.more (b := w.heap.size + 1 + 1) (by omega)).go F1.bl) ((qb.more (b := w.heap.size + 1 + 1) (by omega)).go F1.bl) hM1 oa ob hf
 have F := Hd F1
 have HV := Hd (show minT a b = if cmpQ b a < 0 then b else a from rfl)
 clear ha hb qa qb hM oa ob hf F1 hM1
 by_cases hc : cmpQ b a < 0
 · have HC := Hd (decide_eq_true hc)
   have HR := Hd (HV.out.trans (if_pos hc)); clear hc; refine ent Tryz.func69 rfl Tryz.ntmps69 ?_
   gi_wp2_with (refine Cl 33 (less_any (M := (w.heap.size + 1 + 1) :: M) (a := b) (b := a) X.out.2.2.1 X.out.2.1.qw X.out.1.qw X.out.2.2.2.2.1 X.out.2.2.2.1 X.out.2.2.2.2.2.swap) ?_
                rintro e w2 ⟨rfl, hb2⟩; rw [HC.out]; have F2 := F.out.go hb2; refine op1 F2 ?_; intros; have G2 := Hd2 F2 (X.out.2.1.go hb2)
                clear hb2 F2)
   have hx := fun i u hu => (G2.out.1.at_ (w.heap.size + 1 + 1) [.bool false, .slice none 0 0, .bool false, .slice none 0 0] (by simp) i u hu).1
   obtain ⟨wF, hwF, t0, t1, t2, t3, hQ, bF⟩ := fin4 (M := M) (hx 0 _ rfl) (hx 1 _ rfl) (hx 2 _ rfl) (hx 3 _ rfl) (x := b) G2.out.2.num.sl G2.out.2.den.sl G2.out.2.num.neg G2.out.2.den.neg G2.out.1.bl (by omega); rw [hwF]; exact ⟨rfl, .agg #[.bool p2, .slice A2 n2 c2, .bool q2, .slice B2 m2 d2], by simp [results, go_sem, t0, t1, t2, t3], _, rfl, by rw [HR.out]; exact hQ, bF⟩
 · have HC := Hd (decide_eq_false hc)
   have HR := Hd (HV.out.trans (if_neg hc)); clear hc; refine ent Tryz.func69 rfl Tryz.ntmps69 ?_
   gi_wp2_with (refine Cl 33 (less_any (M := (w.heap.size + 1 + 1) :: M) (a := b) (b := a) X.out.2.2.1 X.out.2.1.qw X.out.1.qw X.out.2.2.2.2.1 X.out.2.2.2.1 X.out.2.2.2.2.2.swap) ?_
                rintro e w2 ⟨rfl, hb2⟩; rw [HC.out]; have F2 := F.out.go hb2; refine op1 F2 ?_; intros; have G2 := Hd2 F2 (X.out.1.go hb2)
                clear hb2 F2)
   have hx := fun i u hu => (G2.out.1.at_ (w.heap.size + 1 + 1) [.bool false, .slice none 0 0, .bool false, .slice none 0 0] (by simp) i u hu).1
   obtain ⟨wF, hwF, t0, t1, t2, t3, hQ, bF⟩ := fin4 (M := M) (hx 0 _ rfl) (hx 1 _ rfl) (hx 2 _ rfl) (hx 3 _ rfl) (x := a) G2.out.2.num.sl G2.out.2.den.sl G2.out.2.num.neg G2.out.2.den.neg G2.out.1.bl (by omega); rw [hwF]; exact ⟨rfl, .agg #[.bool p1, .slice A1 n1 c1, .bool q1, .slice B1 m1 d1], by simp [results, go_sem, t0, t1, t2, t3], _, rfl, by rw [HR.out]; exact hQ, bF⟩
set_option maxHeartbeats 4000000 in
theorem first_more {M : List Nat} {va vb : Value} {a b : Rt} {w : World} (hM : Bel M w) (ha : QW w M va a) (hb : QW w M vb b) (oa : a.ok) (ob : b.ok) (hf : Fine a b) :
 Calls Tryz.prog 69 #[va, vb, .func (.func 71) #[] #[]] w fun e w' => ∃ u, e = .returned u ∧ QW w' M u (maxT a b) ∧ Below w.heap.size w w' := by
 refine wid ?_
 obtain ⟨p1, q1, A1, n1, c1, B1, m1, d1, rfl, qa⟩ := QC.of ha
 obtain ⟨p2, q2, A2, n2, c2, B2, m2, d2, rfl, qb⟩ := QC.of hb
 obtain ⟨W1, hW1, F1⟩ := nam ((((Fr.nil w).a w.heap.size [.bool p1, .slice A1 n1 c1, .bool q1, .slice B1 m1 d1] 31).a (w.heap.size + 1) [.bool p2, .slice A2 n2 c2, .bool q2, .slice B2 m2 d2] 31).a4 (w.heap.size + 1 + 1) 31)
 refine op1 F1 ?_; intros
 have hM1 : Bel ((w.heap.size + 1 + 1) :: M) W1 := (hM.le F1.bl.size).cons (F1.lt (w.heap.size + 1 + 1) [.bool false, .slice none 0 0, .bool false, .slice none 0 0] (by simp))
 have X := Hd6 ((qa.more (b := w.heap.size + 1 + 1) (by omega)).go F1.bl) ((qb.more (b := w.heap.size + 1 + 1) (by omega)).go F1.bl) hM1 oa ob hf
 have F := Hd F1
 have HV := Hd (show maxT a b = if cmpQ a b < 0 then b else a from rfl)
 clear ha hb qa qb hM oa ob hf F1 hM1
 by_cases hc : cmpQ a b < 0
 · have HC := Hd (decide_eq_true hc)
   have HR := Hd (HV.out.trans (if_pos hc)); clear hc; refine ent Tryz.func69 rfl Tryz.ntmps69 ?_
   gi_wp2_with (refine Cl 71 (more_any (M := (w.heap.size + 1 + 1) :: M) (a := b) (b := a) X.out.2.2.1 X.out.2.1.qw X.out.1.qw X.out.2.2.2.2.1 X.out.2.2.2.1 X.out.2.2.2.2.2.swap) ?_
                rintro e w2 ⟨rfl, hb2⟩; rw [HC.out]; have F2 := F.out.go hb2; refine op1 F2 ?_; intros; have G2 := Hd2 F2 (X.out.2.1.go hb2)
                clear hb2 F2)
   have hx := fun i u hu => (G2.out.1.at_ (w.heap.size + 1 + 1) [.bool false, .slice none 0 0, .bool false, .slice none 0 0] (by simp) i u hu).1
   obtain ⟨wF, hwF, t0, t1, t2, t3, hQ, bF⟩ := fin4 (M := M) (hx 0 _ rfl) (hx 1 _ rfl) (hx 2 _ rfl) (hx 3 _ rfl) (x := b) G2.out.2.num.sl G2.out.2.den.sl G2.out.2.num.neg G2.out.2.den.neg G2.out.1.bl (by omega); rw [hwF]; exact ⟨rfl, .agg #[.bool p2, .slice A2 n2 c2, .bool q2, .slice B2 m2 d2], by simp [results, go_sem, t0, t1, t2, t3], _, rfl, by rw [HR.out]; exact hQ, bF⟩
 · have HC := Hd (decide_eq_false hc)
   have HR := Hd (HV.out.trans (if_neg hc)); clear hc; refine ent Tryz.func69 rfl Tryz.ntmps69 ?_
   gi_wp2_with (refine Cl 71 (more_any (M := (w.heap.size + 1 + 1) :: M) (a := b) (b := a) X.out.2.2.1 X.out.2.1.qw X.out.1.qw X.out.2.2.2.2.1 X.out.2.2.2.1 X.out.2.2.2.2.2.swap) ?_
                rintro e w2 ⟨rfl, hb2⟩; rw [HC.out]; have F2 := F.out.go hb2; refine op1 F2 ?_; intros; have G2 := Hd2 F2 (X.out.1.go hb2)
                clear hb2 F2)
   have hx := fun i u hu => (G2.out.1.at_ (w.heap.size + 1 + 1) [.bool false, .slice none 0 0, .bool false, .slice none 0 0] (by simp) i u hu).1
   obtain ⟨wF, hwF, t0, t1, t2, t3, hQ, bF⟩ := fin4 (M := M) (hx 0 _ rfl) (hx 1 _ rfl) (hx 2 _ rfl) (hx 3 _ rfl) (x := a) G2.out.2.num.sl G2.out.2.den.sl G2.out.2.num.neg G2.out.2.den.neg G2.out.1.bl (by omega); rw [hwF]; exact ⟨rfl, .agg #[.bool p1, .slice A1 n1 c1, .bool q1, .slice B1 m1 d1], by simp [results, go_sem, t0, t1, t2, t3], _, rfl, by rw [HR.out]; exact hQ, bF⟩
end
section
open Go.RowKit Go.Shelf
attribute [local go_sem] Oper.semAt_some
structure FZ (w W : World) (na nb : Bool) (va vb : Value) : Prop where
 a0 : W.cell? ⟨w.heap.size, 0, none⟩ = some (.bool na)
 a1 : W.cell? ⟨w.heap.size, 1, none⟩ = some (va)
 b0 : W.cell? ⟨w.heap.size + 1, 0, none⟩ = some (.bool nb)
 b1 : W.cell? ⟨w.heap.size + 1, 1, none⟩ = some (vb)
 x0 : W.cell? ⟨w.heap.size + 1 + 1, 0, none⟩ = some (.bool false)
 x1 : W.cell? ⟨w.heap.size + 1 + 1, 1, none⟩ = some (.slice none 0 0)
 fx0 : W.frozen? ⟨w.heap.size + 1 + 1, 0, none⟩ = false
 fx1 : W.frozen? ⟨w.heap.size + 1 + 1, 1, none⟩ = false
 bl : Below w.heap.size w W
 sz : w.heap.size + 3 ≤ W.heap.size
theorem FZ.go {w W W' : World} {na nb : Bool} {va vb : Value} (h : FZ w W na nb va vb) (hb : Below W.heap.size W W') : FZ w W' na nb va vb := by
 have hs := h.sz
 have c : ∀ (k o : Nat) (u : Value), k < w.heap.size + 3 → W.cell? ⟨k, o, none⟩ = some u → W'.cell? ⟨k, o, none⟩ = some u := fun k o u hk hu => (hb.cell (p := ⟨k, o, none⟩) (show k < _ by omega)).trans hu
 have f : ∀ (k o : Nat), k < w.heap.size + 3 → W.frozen? ⟨k, o, none⟩ = false → W'.frozen? ⟨k, o, none⟩ = false := fun k o hk hu => (hb.frozen (p := ⟨k, o, none⟩) (show k < _ by omega)).trans hu
 exact ⟨c _ _ _ (by omega) h.a0, c _ _ _ (by omega) h.a1, c _ _ _ (by omega) h.b0, c _ _ _ (by omega) h.b1, c _ _ _ (by omega) h.x0, c _ _ _ (by omega) h.x1, f _ _ (by omega) h.fx0, f _ _ (by omega) h.fx1, h.bl.trans (hb.mono h.bl.size), by have := hb.size; omega⟩
theorem FZ.start (w : World) (na nb : Bool) (va vb : Value) : FZ w ((((w).alloc (.cells #[.bool na, va] 29)).alloc (.cells #[.bool nb, vb] 29)).alloc (.cells #[.bool false, .slice none 0 0] 29)) na nb va vb := ⟨by simp [go_sem], by simp [go_sem], by simp [go_sem], by simp [go_sem], by simp [go_sem], by simp [go_sem], by simp [go_sem], by simp [go_sem], by exact bel, by simp⟩
theorem FZ.drew {w W : World} {na nb : Bool} {va vb : Value} (h : FZ w W na nb va vb) : FZ w W.drew na nb va vb := ⟨h.a0, h.a1, h.b0, h.b1, h.x0, h.x1, h.fx0, h.fx1, h.bl.drew, h.sz⟩
def ZQ (w : World) (M : List Nat) (z : Int) (e : Ending) (w' : World) : Prop := ∃ u, e = .returned (.tuple #[u, .int .i64 0]) ∧ ZV w' M u z ∧ Below w.heap.size w w'
theorem fin2 {w V : World} {M : List Nat} {b s : Nat} {A : Option Addr} {n c : Nat} {q : Bool} {z : Int} {u0 u1 : Value} (h0 : V.cell? ⟨b, 0, none⟩ = some u0) (h1 : V.cell? ⟨b, 1, none⟩ = some u1)
 (hz : ZV V (b :: M) (.agg #[.bool q, .slice A n c]) z) (hb : Below s w V) (hsb : s ≤ b) :
 ∃ wF, (V.setCell ⟨b, 0, none⟩ (.bool q)).setCell ⟨b, 1, none⟩ (.slice A n c) = wF ∧ wF.cell? ⟨b, 0, none⟩ = some (.bool q) ∧ wF.cell? ⟨b, 1, none⟩ = some (.slice A n c) ∧ ZV wF M (.agg #[.bool q, .slice A n c]) z ∧ Below s w wF := by
 have kp := ((Keeps.refl (b :: M) V).setCell (p := ⟨b, 0, none⟩) (.inl (by simp)) (.bool q)).setCell (p := ⟨b, 1, none⟩) (.inl (by simp)) (.slice A n c)
 refine ⟨_, rfl, by simp [go_sem, h0, h1], by simp [go_sem, h0, h1], ?_, (hb.setCell (p := ⟨b, 0, none⟩) hsb _).setCell (p := ⟨b, 1, none⟩) hsb _⟩
 obtain ⟨A', n', c', e, hs⟩ := hz
 exact ⟨A', n', c', e, (hs.keep kp).less (fun k hk => List.mem_cons_of_mem _ hk)⟩
theorem of_ok {M : List Nat} {A : Option Addr} {n c v : Nat} {neg : Bool} {l : List Nat} {z : Int} {w : World} (hM : Bel M w) (hx : Sl Int w M A n c (ints l)) (hg : Good l) (hv : val l = v) (hz : bigM neg v = z) (hf : fits z = true) :
 Calls Tryz.prog 101 #[.bool neg, .slice A n c] w fun e w' => ∃ q A' n' c', e = .returned (.tuple #[.agg #[.bool q, .slice A' n' c'], .int .i64 0]) ∧ ZV w' M (.agg #[.bool q, .slice A' n' c']) z ∧ Below w.heap.size w w' := by
 subst hz
 refine (of_any hM hx hg hv).mono ?_
 rintro e w' ⟨u, rfl, hz, hb⟩
 rw [limI_ok hf]
 rw [limZ_ok hf] at hz
 obtain ⟨A', n', c', rfl, h⟩ := hz
 exact ⟨_, A', n', c', rfl, ⟨A', n', c', rfl, h⟩, hb⟩
theorem FZ.begin {w : World} {M : List Nat} (hM : Bel M w) {A B : Option Addr} {n c m d : Nat} {a b : Int} {na nb : Bool} (hx : Sl Int w M A n c (ints (zmag a))) (hy : Sl Int w M B m d (ints (zmag b))) :
 ∃ W1, (((w).alloc (.cells #[.bool na, .slice A n c] 29)).alloc (.cells #[.bool nb, .slice B m d] 29)).alloc (.cells #[.bool false, .slice none 0 0] 29) = W1 ∧ FZ w W1 na nb (.slice A n c) (.slice B m d) ∧ Sl Int W1 ((w.heap.size + 1 + 1) :: M) A n c (ints (zmag a)) ∧ Sl Int W1 ((w.heap.size + 1 + 1) :: M) B m d (ints (zmag b)) ∧ Bel ((w.heap.size + 1 + 1) :: M) W1 := by
 have F1 := FZ.start w na nb (.slice A n c) (.slice B m d)
 refine ⟨_, rfl, F1, (hx.more (b := w.heap.size + 1 + 1) (by omega)).go F1.bl, (hy.more (b := w.heap.size + 1 + 1) (by omega)).go F1.bl, fun k hk => ?_⟩
 have := F1.sz
 rcases List.mem_cons.1 hk with rfl | hk
 · omega
 · have := hM k hk; omega
set_option maxHeartbeats 2000000 in
theorem rMul_any {M : List Nat} {va vb : Value} {a b : Int} {w : World} (hM : Bel M w) (ha : ZV w M va a) (hb : ZV w M vb b) (fa : fits a = true) (fb : fits b = true) (fab : fits (a * b) = true) :
 Calls Tryz.prog 114 #[va, vb] w (ZQ w M (a * b)) := by
 refine wid ?_
 obtain ⟨A, n, c, rfl, hx⟩ := ha
 obtain ⟨B, m, d, rfl, hy⟩ := hb
 have hn := len_fits fa hx.dlen
 have hm := len_fits fb hy.dlen
 obtain ⟨na, hna⟩ : ∃ na, zneg a = na := ⟨_, rfl⟩
 obtain ⟨nb, hnb⟩ : ∃ nb, zneg b = nb := ⟨_, rfl⟩
 have hres : bigM (na != nb) (a.natAbs * b.natAbs) = a * b := by rw [← hna, ← hnb]; exact mul_big a b
 rw [hna, hnb]
 obtain ⟨W1, hW1, F1, hx2, hy2, hM2⟩ := FZ.begin (na := na) (nb := nb) hM hx hy
 have X := Hd3 hx2 hy2 hM2
 have HN := Hd2 hna hnb
 have HF := Hd4 fa fb fab trivial
 have HR := Hd hres
 have F := Hd F1
 have lay_q := F1; obtain ⟨ea0, ea1, eb0, eb1, ex0, ex1, efx0, efx1, -, -⟩ := lay_q
 clear hx hy hM hx2 hy2 hM2 hna hnb fa fb fab hres
 cases na <;> cases nb
 all_goals (
 refine ent Tryz.func114 rfl Tryz.ntmps114 ?_
 gi_wp2_with (refine Cl 99 (two_any (a := a) (b := b) (M := (w.heap.size + 1 + 1) :: M) ⟨A, n, c, by rw [HN.out.1], X.out.1⟩ ⟨B, m, d, by rw [HN.out.2], X.out.2.1⟩ HF.out.1 HF.out.2.1) ?_
              rintro e w2 ⟨rfl, hb2⟩; have F2 := F.out.go hb2; have F2d := F2.drew; have lay_q := F2; obtain ⟨ua0, ua1, ub0, ub1, ux0, ux1, ufx0, ufx1, -, -⟩ := lay_q; have lay_q := F2d; obtain ⟨ya0, ya1, yb0, yb1, yx0, yx1, yfx0, yfx1, -, -⟩ := lay_q; have v0 := stays_drew ua0; have v1 := stays_drew ua1; have v2 := stays_drew ub0; have v3 := stays_drew ub1; have G2 := Hd2 F2d hb2
              clear hb2 F2 F2d)
 refine region_E_np [] 13 (by kernel_rfl) (by kernel_rfl) ?_
 refine E_rd 0 ?_; refine E_rd 1 ?_; refine E_rd 2 ?_; refine E_rd 3 ?_; refine E_rd 4 ?_; refine E_rd 5 ?_; refine E_rd 6 ?_; refine E_rd 7 ?_; refine E_rd 8 ?_
 refine E_al 9 fun K hK => ?_; gi_wp2
 refine Cm (rtimes_any (x := a.natAbs) (y := b.natAbs) (X.out.2.2.le (w' := w2.drew) G2.out.2.size) ((X.out.1.go G2.out.2).keep (Keeps.refl _ _).drew) ((X.out.2.1.go G2.out.2).keep (Keeps.refl _ _).drew) (by omega) (by omega)) ?_
 rintro e w3 ⟨A3, n3, c3, rfl, hs3, hb3⟩
 have G3 := Hd3 hs3 (G2.out.1.go hb3) hb3
 clear hs3
 refine hK _ _ ⟨?_, ?_⟩; clear hK K
 · exact Keeps.of_below hb3 []
 refine lit ?_
 clear hb3
 refine E_al 10 fun K hK => ?_; gi_wp2
 refine Cm (of_ok (v := a.natAbs * b.natAbs) (z := a * b) (X.out.2.2.le (Nat.le_trans G2.out.2.size G3.out.2.2.size)) G3.out.1 (good_dig _) (val_dig _) HR.out HF.out.2.2.1) ?_
 rintro e w4 ⟨q, A4, n4, c4, rfl, hz4, hb4⟩
 have F4 := G3.out.2.1.go hb4
 have H4 := Hd2 hz4 F4
 have lay_q := F4; obtain ⟨sa0, sa1, sb0, sb1, sx0, sx1, sfx0, sfx1, -, -⟩ := lay_q
 clear hz4 F4
 refine hK _ _ ⟨?_, ?_⟩; clear hK K
 · exact Keeps.of_below hb4 []
 refine lit ?_
 clear hb4
 refine E_rd 11 ?_; refine E_rd 12 ?_
 refine E_nl 2 ?_; refine tls fun K hK K' hK' => ?_; gi_wp2; refine tls fun K hK K' hK' => ?_; gi_wp2; refine tail_nil _ ?_; simp only [npost]; gi_wp2
 obtain ⟨wF, hwF, r0, r1, hz, hbF⟩ := fin2 (M := M) sx0 sx1 H4.out.1 H4.out.2.bl (by omega)
 rw [hwF]
 refine ⟨rfl, .tuple #[.agg #[.bool q, .slice A4 n4 c4], .int .i64 0], by simp [results, go_sem, r0, r1], _, rfl, hz, hbF⟩)
set_option maxHeartbeats 4000000 in
theorem rAdd_any {M : List Nat} {va vb : Value} {a b : Int} {w : World} (hM : Bel M w) (ha : ZV w M va a) (hb : ZV w M vb b) (fa : fits a = true) (fb : fits b = true) (fab : fits (a + b) = true) :
 Calls Tryz.prog 115 #[va, vb] w (ZQ w M (a + b)) := by
 refine wid ?_
 obtain ⟨A, n, c, rfl, hx⟩ := ha
 obtain ⟨B, m, d, rfl, hy⟩ := hb
 have hn := len_fits fa hx.dlen
 have hm := len_fits fb hy.dlen
 obtain ⟨na, hna⟩ : ∃ na, zneg a = na := ⟨_, rfl⟩
 obtain ⟨nb, hnb⟩ : ∃ nb, zneg b = nb := ⟨_, rfl⟩
 rw [hna, hnb]
 obtain ⟨W1, hW1, F1, hx2, hy2, hM2⟩ := FZ.begin (na := na) (nb := nb) hM hx hy
 have X := Hd3 hx2 hy2 hM2
 have HN := Hd2 hna hnb
 have HF := Hd4 fa fb fab trivial
 have F := Hd F1
 have lay_q := F1; obtain ⟨ea0, ea1, eb0, eb1, ex0, ex1, efx0, efx1, -, -⟩ := lay_q
 clear hx hy hM hx2 hy2 hM2 fa fb fab
 by_cases hs : na = nb
 · subst hs
   have HR := Hd (show bigM na (a.natAbs + b.natAbs) = a + b by rw [← hna]; exact add_same (hna.trans hnb.symm)); clear hna hnb; cases na
   all_goals (
   refine ent Tryz.func115 rfl Tryz.ntmps115 ?_
   gi_wp2_with ((refine Cl 99 (two_any (a := a) (b := b) (M := (w.heap.size + 1 + 1) :: M) ⟨A, n, c, by rw [HN.out.1], X.out.1⟩ ⟨B, m, d, by rw [HN.out.2], X.out.2.1⟩ HF.out.1 HF.out.2.1) ?_
                 rintro e w2 ⟨rfl, hb2⟩; have F2 := F.out.go hb2; have lay_q := F2; obtain ⟨ua0, ua1, ub0, ub1, ux0, ux1, ufx0, ufx1, -, -⟩ := lay_q; have G2 := Hd2 F2 hb2
                 clear hb2 F2))
   have F2d := G2.out.1.drew; have lay_q := F2d; obtain ⟨ya0, ya1, yb0, yb1, yx0, yx1, yfx0, yfx1, -, -⟩ := lay_q; have v0 := stays (w := w2.drew) ya0; have v1 := stays (w := w2.drew) ya1; have v2 := stays (w := w2.drew) yb0; have v3 := stays (w := w2.drew) yb1; refine region_E_np [] 10 (by kernel_rfl) (by kernel_rfl) ?_; refine E_rd 0 ?_; refine E_rd 1 ?_; refine E_rd 2 ?_; refine E_rd 3 ?_; refine E_rd 4 ?_; refine E_rd 5 ?_
   refine E_al 6 fun K hK => ?_; gi_wp2
   refine Cm (rplus_any (x := a.natAbs) (y := b.natAbs) (X.out.2.2.le (w' := w2.drew) G2.out.2.size) ((X.out.1.go G2.out.2).keep (Keeps.refl _ _).drew) ((X.out.2.1.go G2.out.2).keep (Keeps.refl _ _).drew) (by omega) (by omega)) ?_; rintro e w3 ⟨A3, n3, c3, l3, rfl, hs3, hg3, hv3, hb3⟩; have G3 := Hd5 hs3 (G2.out.1.drew.go hb3) (X.out.2.2.le (Nat.le_trans G2.out.2.size hb3.size)) hg3 hv3; clear hs3 hg3 hv3; refine hK _ _ ⟨?_, ?_⟩; clear hK K
   · exact Keeps.of_below hb3 []
   refine lit ?_; clear hb3
   refine E_al 7 fun K hK => ?_; gi_wp2
   refine Cm (of_ok (v := a.natAbs + b.natAbs) (z := a + b) (G3.out.2.2.1) G3.out.1 G3.out.2.2.2.1 G3.out.2.2.2.2 HR.out HF.out.2.2.1) ?_; rintro e w4 ⟨q, A4, n4, c4, rfl, hz4, hb4⟩; have F4 := G3.out.2.1.go hb4; have H4 := Hd2 hz4 F4; have lay_q := F4; obtain ⟨sa0, sa1, sb0, sb1, sx0, sx1, sfx0, sfx1, -, -⟩ := lay_q; clear hz4 F4; refine hK _ _ ⟨?_, ?_⟩; clear hK K
   · exact Keeps.of_below hb4 []
   refine lit ?_; clear hb4; refine E_rd 8 ?_; refine E_rd 9 ?_
   refine E_nl 2 ?_; refine tls fun K hK K' hK' => ?_; gi_wp2; refine tls fun K hK K' hK' => ?_; gi_wp2; refine tail_nil _ ?_; simp only [npost]; gi_wp2
   obtain ⟨wF, hwF, r0, r1, hz, hbF⟩ := fin2 (M := M) sx0 sx1 H4.out.1 H4.out.2.bl (by omega); rw [hwF]
   refine ⟨rfl, .tuple #[.agg #[.bool q, .slice A4 n4 c4], .int .i64 0], by simp [results, go_sem, r0, r1], _, rfl, hz, hbF⟩)
 · have hne : zneg a ≠ zneg b := fun e => hs (hna.symm.trans (e.trans hnb))
   by_cases hle : b.natAbs ≤ a.natAbs
   · have HR := Hd (show bigM na (a.natAbs - b.natAbs) = a + b by rw [← hna]; exact add_other hne hle)
     obtain ⟨cz, hcz⟩ : ∃ cz, cmpZ a.natAbs b.natAbs = cz := ⟨_, rfl⟩
     have hcz0 : 0 ≤ cz := by
      rcases Nat.lt_or_ge b.natAbs a.natAbs with h | h
      · rw [← hcz, cmpZ_gt h]; decide
      · rw [← hcz, cmpZ_eq (by omega)]; decide
     have HC := Hd hcz; clear hna hnb hne hcz
     cases na <;> cases nb
     case pos.false.false => exact absurd rfl hs
     case pos.true.true => exact absurd rfl hs
     all_goals (
     clear hs; refine ent Tryz.func115 rfl Tryz.ntmps115 ?_
     gi_wp2_with (first
      | (refine ⟨trivial, ?_⟩; gi_at_call 102; have g := G2.out; clear g
         refine Cn (cmpR_any A B n c m d a.natAbs b.natAbs _ (X.out.1.go G2.out.2) (X.out.2.1.go G2.out.2)) ?_; rintro e w3 ⟨rfl, hb3⟩; rw [HC.out]; have F3 := G2.out.1.go hb3; have lay_q := F3; obtain ⟨ta0, ta1, tb0, tb1, tx0, tx1, tfx0, tfx1, -, -⟩ := lay_q; have G3' := Hd2 F3 (G2.out.2.trans (hb3.mono G2.out.2.size))
         clear hb3 F3)
      | (refine Cl 99 (two_any (a := a) (b := b) (M := (w.heap.size + 1 + 1) :: M) ⟨A, n, c, by rw [HN.out.1], X.out.1⟩ ⟨B, m, d, by rw [HN.out.2], X.out.2.1⟩ HF.out.1 HF.out.2.1) ?_
         rintro e w2 ⟨rfl, hb2⟩; have F2 := F.out.go hb2; have lay_q := F2; obtain ⟨ua0, ua1, ub0, ub1, ux0, ux1, ufx0, ufx1, -, -⟩ := lay_q; have G2 := Hd2 F2 hb2
         clear hb2 F2)
      | fail)
     have F3d := G3'.out.1.drew; have lay_q := F3d; obtain ⟨ya0, ya1, yb0, yb1, yx0, yx1, yfx0, yfx1, -, -⟩ := lay_q; have v0 := stays (w := w3.drew) ya0; have v1 := stays (w := w3.drew) ya1; have v2 := stays (w := w3.drew) yb0; have v3 := stays (w := w3.drew) yb1; refine region_E_np [] 10 (by kernel_rfl) (by kernel_rfl) ?_; refine E_rd 0 ?_; refine E_rd 1 ?_; refine E_rd 2 ?_; refine E_rd 3 ?_; refine E_rd 4 ?_; refine E_rd 5 ?_
     refine E_al 6 fun K hK => ?_; gi_wp2
     refine Cm (rless_any (x := a.natAbs) (y := b.natAbs) (X.out.2.2.le (w' := w3.drew) G3'.out.2.size) ((X.out.1.go G3'.out.2).keep (Keeps.refl _ _).drew) ((X.out.2.1.go G3'.out.2).keep (Keeps.refl _ _).drew) (by omega) (by omega)) ?_; rintro e w5 ⟨A3, n3, c3, rfl, hs3, hb3⟩; have G3 := Hd4 hs3 (G3'.out.1.drew.go hb3) (X.out.2.2.le (Nat.le_trans G3'.out.2.size hb3.size)) hb3; clear hs3; refine hK _ _ ⟨?_, ?_⟩; clear hK K
     · exact Keeps.of_below hb3 []
     refine lit ?_; clear hb3
     refine E_al 7 fun K hK => ?_; gi_wp2
     refine Cm (of_ok (v := a.natAbs - b.natAbs) (z := a + b) (G3.out.2.2.1) G3.out.1 (good_dig _) (val_dig _) HR.out HF.out.2.2.1) ?_; rintro e w4 ⟨q, A4, n4, c4, rfl, hz4, hb4⟩; have F4 := G3.out.2.1.go hb4; have H4 := Hd2 hz4 F4; have lay_q := F4; obtain ⟨sa0, sa1, sb0, sb1, sx0, sx1, sfx0, sfx1, -, -⟩ := lay_q; clear hz4 F4; refine hK _ _ ⟨?_, ?_⟩; clear hK K
     · exact Keeps.of_below hb4 []
     refine lit ?_; clear hb4; refine E_rd 8 ?_; refine E_rd 9 ?_
     refine E_nl 2 ?_; refine tls fun K hK K' hK' => ?_; gi_wp2; refine tls fun K hK K' hK' => ?_; gi_wp2; refine tail_nil _ ?_; simp only [npost]; gi_wp2
     obtain ⟨wF, hwF, r0, r1, hz, hbF⟩ := fin2 (M := M) sx0 sx1 H4.out.1 H4.out.2.bl (by omega); rw [hwF]
     refine ⟨rfl, .tuple #[.agg #[.bool q, .slice A4 n4 c4], .int .i64 0], by simp [results, go_sem, r0, r1], _, rfl, hz, hbF⟩)
   · have HR := Hd (show bigM nb (b.natAbs - a.natAbs) = a + b by rw [← hnb, Int.add_comm]; exact add_other hne.symm (by omega))
     obtain ⟨cz, hcz⟩ : ∃ cz, cmpZ a.natAbs b.natAbs = cz := ⟨_, rfl⟩
     have hcz0 : ¬ 0 ≤ cz := by rw [← hcz, cmpZ_lt (by omega)]; decide
     have HC := Hd hcz; clear hna hnb hne hcz
     cases na <;> cases nb
     case neg.false.false => exact absurd rfl hs
     case neg.true.true => exact absurd rfl hs
     all_goals (
     clear hs; refine ent Tryz.func115 rfl Tryz.ntmps115 ?_
     gi_wp2_with (first
      | (refine ⟨trivial, ?_⟩; gi_at_call 102; have g := G2.out; clear g
         refine Cn (cmpR_any A B n c m d a.natAbs b.natAbs _ (X.out.1.go G2.out.2) (X.out.2.1.go G2.out.2)) ?_; rintro e w3 ⟨rfl, hb3⟩; rw [HC.out]; have F3 := G2.out.1.go hb3; have lay_q := F3; obtain ⟨ta0, ta1, tb0, tb1, tx0, tx1, tfx0, tfx1, -, -⟩ := lay_q; have G3' := Hd2 F3 (G2.out.2.trans (hb3.mono G2.out.2.size))
         clear hb3 F3)
      | (refine Cl 99 (two_any (a := a) (b := b) (M := (w.heap.size + 1 + 1) :: M) ⟨A, n, c, by rw [HN.out.1], X.out.1⟩ ⟨B, m, d, by rw [HN.out.2], X.out.2.1⟩ HF.out.1 HF.out.2.1) ?_
         rintro e w2 ⟨rfl, hb2⟩; have F2 := F.out.go hb2; have lay_q := F2; obtain ⟨ua0, ua1, ub0, ub1, ux0, ux1, ufx0, ufx1, -, -⟩ := lay_q; have G2 := Hd2 F2 hb2
         clear hb2 F2)
      | fail)
     have F3d := G3'.out.1.drew; have lay_q := F3d; obtain ⟨ya0, ya1, yb0, yb1, yx0, yx1, yfx0, yfx1, -, -⟩ := lay_q; have v0 := stays (w := w3.drew) ya0; have v1 := stays (w := w3.drew) ya1; have v2 := stays (w := w3.drew) yb0; have v3 := stays (w := w3.drew) yb1; refine region_E_np [] 10 (by kernel_rfl) (by kernel_rfl) ?_; refine E_rd 0 ?_; refine E_rd 1 ?_; refine E_rd 2 ?_; refine E_rd 3 ?_; refine E_rd 4 ?_; refine E_rd 5 ?_
     refine E_al 6 fun K hK => ?_; gi_wp2
     refine Cm (rless_any (x := b.natAbs) (y := a.natAbs) (X.out.2.2.le (w' := w3.drew) G3'.out.2.size) ((X.out.2.1.go G3'.out.2).keep (Keeps.refl _ _).drew) ((X.out.1.go G3'.out.2).keep (Keeps.refl _ _).drew) (by omega) (by omega)) ?_; rintro e w5 ⟨A3, n3, c3, rfl, hs3, hb3⟩; have G3 := Hd4 hs3 (G3'.out.1.drew.go hb3) (X.out.2.2.le (Nat.le_trans G3'.out.2.size hb3.size)) hb3; clear hs3; refine hK _ _ ⟨?_, ?_⟩; clear hK K
     · exact Keeps.of_below hb3 []
     refine lit ?_; clear hb3
     refine E_al 7 fun K hK => ?_; gi_wp2
     refine Cm (of_ok (v := b.natAbs - a.natAbs) (z := a + b) (G3.out.2.2.1) G3.out.1 (good_dig _) (val_dig _) HR.out HF.out.2.2.1) ?_; rintro e w4 ⟨q, A4, n4, c4, rfl, hz4, hb4⟩; have F4 := G3.out.2.1.go hb4; have H4 := Hd2 hz4 F4; have lay_q := F4; obtain ⟨sa0, sa1, sb0, sb1, sx0, sx1, sfx0, sfx1, -, -⟩ := lay_q; clear hz4 F4; refine hK _ _ ⟨?_, ?_⟩; clear hK K
     · exact Keeps.of_below hb4 []
     refine lit ?_; clear hb4; refine E_rd 8 ?_; refine E_rd 9 ?_
     refine E_nl 2 ?_; refine tls fun K hK K' hK' => ?_; gi_wp2; refine tls fun K hK K' hK' => ?_; gi_wp2; refine tail_nil _ ?_; simp only [npost]; gi_wp2
     obtain ⟨wF, hwF, r0, r1, hz, hbF⟩ := fin2 (M := M) sx0 sx1 H4.out.1 H4.out.2.bl (by omega); rw [hwF]
     refine ⟨rfl, .tuple #[.agg #[.bool q, .slice A4 n4 c4], .int .i64 0], by simp [results, go_sem, r0, r1], _, rfl, hz, hbF⟩)
set_option maxHeartbeats 4000000 in
theorem rSub_any {M : List Nat} {va vb : Value} {a b : Int} {w : World} (hM : Bel M w) (ha : ZV w M va a) (hb : ZV w M vb b) (fa : fits a = true) (fb : fits b = true) (fab : fits (a - b) = true) :
 Calls Tryz.prog 117 #[va, vb] w (ZQ w M (a - b)) := by
 refine wid ?_
 obtain ⟨A, n, c, rfl, hx⟩ := ha
 obtain ⟨B, m, d, rfl, hy⟩ := hb
 obtain ⟨na, hna⟩ : ∃ na, zneg a = na := ⟨_, rfl⟩
 obtain ⟨nb, hnb⟩ : ∃ nb, zneg b = nb := ⟨_, rfl⟩
 rw [hna, hnb]
 obtain ⟨W1, hW1, F1, hx2, hy2, hM2⟩ := FZ.begin (na := na) (nb := nb) hM hx hy
 have X := Hd3 hx2 hy2 hM2
 have HN := Hd2 hna hnb
 have HF := Hd4 fa fb (show fits (a + -b) = true by rw [← Int.sub_eq_add_neg]; exact fab) (fits_neg fb)
 have F := Hd F1
 rw [Int.sub_eq_add_neg]
 have lay_q := F1; obtain ⟨ea0, ea1, eb0, eb1, ex0, ex1, efx0, efx1, -, -⟩ := lay_q
 clear hx hy hM hx2 hy2 hM2 fa fb fab hna hnb
 refine ent Tryz.func117 rfl Tryz.ntmps117 ?_
 gi_wp2_with ((refine Cl 99 (two_any (a := a) (b := b) (M := (w.heap.size + 1 + 1) :: M) ⟨A, n, c, by rw [HN.out.1], X.out.1⟩ ⟨B, m, d, by rw [HN.out.2], X.out.2.1⟩ HF.out.1 HF.out.2.1) ?_
               rintro e w2 ⟨rfl, hb2⟩; have F2 := F.out.go hb2; have lay_q := F2; obtain ⟨ua0, ua1, ub0, ub1, ux0, ux1, ufx0, ufx1, -, -⟩ := lay_q; have G2 := Hd2 F2 hb2
               clear hb2 F2))
 have F2d := G2.out.1.drew
 have lay_q := F2d; obtain ⟨ya0, ya1, yb0, yb1, yx0, yx1, yfx0, yfx1, -, -⟩ := lay_q
 have v0 := stays (w := w2.drew) ya0
 have v1 := stays (w := w2.drew) ya1
 have v2 := stays (w := w2.drew) yb0
 have v3 := stays (w := w2.drew) yb1
 have zA : ZV w2.drew ((w.heap.size + 1 + 1) :: M) (.agg #[.bool na, .slice A n c]) a := ⟨A, n, c, by rw [HN.out.1], (X.out.1.go G2.out.2).keep (Keeps.refl _ _).drew⟩
 have zB : ZV w2.drew ((w.heap.size + 1 + 1) :: M) (.agg #[.bool nb, .slice B m d]) b := ⟨B, m, d, by rw [HN.out.2], (X.out.2.1.go G2.out.2).keep (Keeps.refl _ _).drew⟩
 have HZ := Hd2 zA zB
 clear zA zB
 refine region_E_np [] 6 (by kernel_rfl) (by kernel_rfl) ?_
 refine E_rd 0 ?_; refine E_rd 1 ?_
 refine E_al 2 fun K hK => ?_; gi_wp2
 refine Cm (rneg_any (z := b) (X.out.2.2.le (w' := w2.drew) G2.out.2.size) HZ.out.2) ?_
 rintro e w3 ⟨u3, rfl, hz3, hb3⟩
 have G3 := Hd4 hz3 (G2.out.1.drew.go hb3) hb3 (X.out.2.2.le (Nat.le_trans G2.out.2.size hb3.size))
 clear hz3
 refine hK _ _ ⟨?_, ?_⟩; clear hK K
 · exact Keeps.of_below hb3 []
 refine lit ?_
 clear hb3
 refine E_al 3 fun K hK => ?_; gi_wp2
 refine Cm (rAdd_any (a := a) (b := -b) G3.out.2.2.2 (HZ.out.1.go G3.out.2.2.1) G3.out.1 HF.out.1 HF.out.2.2.2 HF.out.2.2.1) ?_
 rintro e w4 ⟨u4, rfl, ⟨A4, n4, c4, rfl, hz4⟩, hb4⟩
 have F4 := G3.out.2.1.go hb4
 obtain ⟨q, hq⟩ : ∃ q, zneg (a + -b) = q := ⟨_, rfl⟩
 rw [hq]
 have H4 := Hd2 (show ZV w4 ((w.heap.size + 1 + 1) :: M) (.agg #[.bool q, .slice A4 n4 c4]) (a + -b) from ⟨A4, n4, c4, by rw [hq], hz4⟩) F4
 have lay_q := F4; obtain ⟨sa0, sa1, sb0, sb1, sx0, sx1, sfx0, sfx1, -, -⟩ := lay_q
 clear hz4 F4 hq
 refine hK _ _ ⟨?_, ?_⟩; clear hK K
 · exact Keeps.of_below hb4 []
 refine lit ?_
 clear hb4
 refine E_rd 4 ?_; refine E_rd 5 ?_
 refine E_nl 2 ?_; refine tls fun K hK K' hK' => ?_; gi_wp2; refine tls fun K hK K' hK' => ?_; gi_wp2; refine tail_nil _ ?_; simp only [npost]; gi_wp2
 obtain ⟨wF, hwF, r0, r1, hz, hbF⟩ := fin2 (M := M) sx0 sx1 H4.out.1 H4.out.2.bl (by omega)
 rw [hwF]
 refine ⟨rfl, .tuple #[.agg #[.bool q, .slice A4 n4 c4], .int .i64 0], by simp [results, go_sem, r0, r1], _, rfl, hz, hbF⟩
structure FY (w W : World) (na nb : Bool) (va vb : Value) : Prop where
 a0 : W.cell? ⟨w.heap.size, 0, none⟩ = some (.bool na)
 a1 : W.cell? ⟨w.heap.size, 1, none⟩ = some (va)
 b0 : W.cell? ⟨w.heap.size + 1, 0, none⟩ = some (.bool nb)
 b1 : W.cell? ⟨w.heap.size + 1, 1, none⟩ = some (vb)
 bl : Below w.heap.size w W
 sz : w.heap.size + 2 ≤ W.heap.size
theorem FY.go {w W W' : World} {na nb : Bool} {va vb : Value} (h : FY w W na nb va vb) (hb : Below W.heap.size W W') : FY w W' na nb va vb := by
 have hs := h.sz
 have c : ∀ (k o : Nat) (u : Value), k < w.heap.size + 2 → W.cell? ⟨k, o, none⟩ = some u → W'.cell? ⟨k, o, none⟩ = some u := fun k o u hk hu => (hb.cell (p := ⟨k, o, none⟩) (show k < _ by omega)).trans hu
 exact ⟨c _ _ _ (by omega) h.a0, c _ _ _ (by omega) h.a1, c _ _ _ (by omega) h.b0, c _ _ _ (by omega) h.b1, h.bl.trans (hb.mono h.bl.size), by have := hb.size; omega⟩
theorem FY.start (w : World) (na nb : Bool) (va vb : Value) : FY w (((w).alloc (.cells #[.bool na, va] 29)).alloc (.cells #[.bool nb, vb] 29)) na nb va vb := ⟨by simp [go_sem], by simp [go_sem], by simp [go_sem], by simp [go_sem], by exact bel, by simp⟩
theorem FY.drew {w W : World} {na nb : Bool} {va vb : Value} (h : FY w W na nb va vb) : FY w W.drew na nb va vb := ⟨h.a0, h.a1, h.b0, h.b1, h.bl.drew, h.sz⟩
set_option maxHeartbeats 4000000 in
theorem rCmp_any {M : List Nat} {va vb : Value} {a b : Int} {w : World} (hM : Bel M w) (ha : ZV w M va a) (hb : ZV w M vb b) (fa : fits a = true) (fb : fits b = true) :
 Calls Tryz.prog 50 #[va, vb] w (CR w (cmpI a b)) := by
 refine wid ?_
 obtain ⟨A, n, c, rfl, hx⟩ := ha
 obtain ⟨B, m, d, rfl, hy⟩ := hb
 obtain ⟨na, hna⟩ : ∃ na, zneg a = na := ⟨_, rfl⟩
 obtain ⟨nb, hnb⟩ : ∃ nb, zneg b = nb := ⟨_, rfl⟩
 rw [hna, hnb]
 obtain ⟨W1, hW1⟩ : ∃ W1 : World, ((w).alloc (.cells #[.bool na, .slice A n c] 29)).alloc (.cells #[.bool nb, .slice B m d] 29) = W1 := ⟨_, rfl⟩
 have F1 : FY w W1 na nb (.slice A n c) (.slice B m d) := by rw [← hW1]; exact FY.start w _ _ _ _
 have X := Hd3 (hx.go F1.bl) (hy.go F1.bl) (hM.le F1.bl.size)
 have HN := Hd2 hna hnb
 have HF := Hd2 fa fb
 have F := Hd F1
 have lay_q := F1; obtain ⟨ea0, ea1, eb0, eb1, -, -⟩ := lay_q
 clear hx hy hM fa fb
 cases na <;> cases nb
 case true.true =>
  have HC := Hd (cmp_both hna hnb); clear hna hnb; refine ent Tryz.func50 rfl Tryz.ntmps50 ?_
  gi_wp2_with (first
   | (refine Cl 102 (cmpR_any B A m d n c b.natAbs a.natAbs _ (X.out.2.1.go G2.out.2) (X.out.1.go G2.out.2)) ?_; rintro e w3 ⟨rfl, hb3⟩; rw [HC.out]; have G3 := Hd (G2.out.1.go hb3); clear hb3)
   | (refine Cl 99 (two_any (a := a) (b := b) (M := M) ⟨A, n, c, by rw [HN.out.1], X.out.1⟩ ⟨B, m, d, by rw [HN.out.2], X.out.2.1⟩ HF.out.1 HF.out.2) ?_
      rintro e w2 ⟨rfl, hb2⟩; have F2 := F.out.go hb2; have lay_q := F2; obtain ⟨ua0, ua1, ub0, ub1, -, -⟩ := lay_q; have G2 := Hd2 F2 hb2
      clear hb2 F2)
   | (refine ⟨trivial, ?_⟩))
  first
   | exact ⟨rfl, G3.out.bl⟩
   | (go_ret2; exact ⟨rfl, G3.out.bl⟩)
 case false.false =>
  have HC := Hd (cmp_none hna hnb); clear hna hnb; refine ent Tryz.func50 rfl Tryz.ntmps50 ?_
  gi_wp2_with (first
   | (refine Cl 102 (cmpR_any A B n c m d a.natAbs b.natAbs _ (X.out.1.go G2.out.2) (X.out.2.1.go G2.out.2)) ?_; rintro e w3 ⟨rfl, hb3⟩; rw [HC.out]; have G3 := Hd (G2.out.1.go hb3); clear hb3)
   | (refine Cl 99 (two_any (a := a) (b := b) (M := M) ⟨A, n, c, by rw [HN.out.1], X.out.1⟩ ⟨B, m, d, by rw [HN.out.2], X.out.2.1⟩ HF.out.1 HF.out.2) ?_
      rintro e w2 ⟨rfl, hb2⟩; have F2 := F.out.go hb2; have lay_q := F2; obtain ⟨ua0, ua1, ub0, ub1, -, -⟩ := lay_q; have G2 := Hd2 F2 hb2
      clear hb2 F2)
   | (refine ⟨trivial, ?_⟩))
  first
   | exact ⟨rfl, G3.out.bl⟩
   | (go_ret2; exact ⟨rfl, G3.out.bl⟩)
 case true.false =>
  have HC := Hd (cmp_first hna hnb); clear hna hnb; rw [HC.out]; refine ent Tryz.func50 rfl Tryz.ntmps50 ?_
  gi_wp2_with (first
   | (refine Cl 99 (two_any (a := a) (b := b) (M := M) ⟨A, n, c, by rw [HN.out.1], X.out.1⟩ ⟨B, m, d, by rw [HN.out.2], X.out.2.1⟩ HF.out.1 HF.out.2) ?_
      rintro e w2 ⟨rfl, hb2⟩; have F2 := F.out.go hb2; have lay_q := F2; obtain ⟨ua0, ua1, ub0, ub1, -, -⟩ := lay_q; have G2 := Hd2 F2 hb2
      clear hb2 F2)
   | (refine ⟨trivial, ?_⟩))
  first
   | exact ⟨rfl, G2.out.1.bl⟩
   | (go_ret2; exact ⟨rfl, G2.out.1.bl⟩)
 case false.true =>
  have HC := Hd (cmp_second hna hnb); clear hna hnb; rw [HC.out]; refine ent Tryz.func50 rfl Tryz.ntmps50 ?_
  gi_wp2_with (first
   | (refine Cl 99 (two_any (a := a) (b := b) (M := M) ⟨A, n, c, by rw [HN.out.1], X.out.1⟩ ⟨B, m, d, by rw [HN.out.2], X.out.2.1⟩ HF.out.1 HF.out.2) ?_
      rintro e w2 ⟨rfl, hb2⟩; have F2 := F.out.go hb2; have lay_q := F2; obtain ⟨ua0, ua1, ub0, ub1, -, -⟩ := lay_q; have G2 := Hd2 F2 hb2
      clear hb2 F2)
   | (refine ⟨trivial, ?_⟩))
  first
   | exact ⟨rfl, G2.out.1.bl⟩
   | (go_ret2; exact ⟨rfl, G2.out.1.bl⟩)
end
end Go.Proofs.YtboapndkopabiaaGreat
