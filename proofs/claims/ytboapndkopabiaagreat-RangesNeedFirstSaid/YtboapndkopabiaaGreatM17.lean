/- Lemmas and walks (Rat9 Rat10 Rat11). No statement is proved here. -/
import Derived.Test.YtboapndkopabiaaGreatM16
set_option linter.unusedVariables false
set_option linter.unusedSimpArgs false
namespace Go.Proofs.YtboapndkopabiaaGreat
section
open Go.RowKit Go.Shelf
attribute [local go_sem] Oper.semAt_some
structure FQ (w W : World) (p1 q1 p2 q2 : Bool) (u1 v1 u2 v2 : Value) : Prop where
 a0 : W.cell? ⟨w.heap.size, 0, none⟩ = some (.bool p1)
 a1 : W.cell? ⟨w.heap.size, 1, none⟩ = some (u1)
 a2 : W.cell? ⟨w.heap.size, 2, none⟩ = some (.bool q1)
 a3 : W.cell? ⟨w.heap.size, 3, none⟩ = some (v1)
 b0 : W.cell? ⟨w.heap.size + 1, 0, none⟩ = some (.bool p2)
 b1 : W.cell? ⟨w.heap.size + 1, 1, none⟩ = some (u2)
 b2 : W.cell? ⟨w.heap.size + 1, 2, none⟩ = some (.bool q2)
 b3 : W.cell? ⟨w.heap.size + 1, 3, none⟩ = some (v2)
 x0 : W.cell? ⟨w.heap.size + 1 + 1, 0, none⟩ = some (.bool false)
 x1 : W.cell? ⟨w.heap.size + 1 + 1, 1, none⟩ = some (.slice none 0 0)
 x2 : W.cell? ⟨w.heap.size + 1 + 1, 2, none⟩ = some (.bool false)
 x3 : W.cell? ⟨w.heap.size + 1 + 1, 3, none⟩ = some (.slice none 0 0)
 e0 : W.cell? ⟨w.heap.size + 1 + 1 + 1, 0, none⟩ = some (.int .i64 0)
 fx0 : W.frozen? ⟨w.heap.size + 1 + 1, 0, none⟩ = false
 fx1 : W.frozen? ⟨w.heap.size + 1 + 1, 1, none⟩ = false
 fx2 : W.frozen? ⟨w.heap.size + 1 + 1, 2, none⟩ = false
 fx3 : W.frozen? ⟨w.heap.size + 1 + 1, 3, none⟩ = false
 fe0 : W.frozen? ⟨w.heap.size + 1 + 1 + 1, 0, none⟩ = false
 bl : Below w.heap.size w W
 sz : w.heap.size + 4 ≤ W.heap.size
theorem FQ.go {w W W' : World} {p1 q1 p2 q2 : Bool} {u1 v1 u2 v2 : Value} (h : FQ w W p1 q1 p2 q2 u1 v1 u2 v2) (hb : Below W.heap.size W W') : FQ w W' p1 q1 p2 q2 u1 v1 u2 v2 := by
 have hs := h.sz
 have c : ∀ (k o : Nat) (u : Value), k < w.heap.size + 4 → W.cell? ⟨k, o, none⟩ = some u → W'.cell? ⟨k, o, none⟩ = some u := fun k o u hk hu => (hb.cell (p := ⟨k, o, none⟩) (show k < _ by omega)).trans hu
 have f : ∀ (k o : Nat), k < w.heap.size + 4 → W.frozen? ⟨k, o, none⟩ = false → W'.frozen? ⟨k, o, none⟩ = false := fun k o hk hu => (hb.frozen (p := ⟨k, o, none⟩) (show k < _ by omega)).trans hu
 exact ⟨c _ _ _ (by omega) h.a0, c _ _ _ (by omega) h.a1, c _ _ _ (by omega) h.a2, c _ _ _ (by omega) h.a3, c _ _ _ (by omega) h.b0, c _ _ _ (by omega) h.b1, c _ _ _ (by omega) h.b2, c _ _ _ (by omega) h.b3, c _ _ _ (by omega) h.x0, c _ _ _ (by omega) h.x1, c _ _ _ (by omega) h.x2, c _ _ _ (by omega) h.x3, c _ _ _ (by omega) h.e0, f _ _ (by omega) h.fx0, f _ _ (by omega) h.fx1, f _ _ (by omega) h.fx2, f _ _ (by omega) h.fx3, f _ _ (by omega) h.fe0, h.bl.trans (hb.mono h.bl.size), by have := hb.size; omega⟩
theorem FQ.start (w : World) (p1 q1 p2 q2 : Bool) (u1 v1 u2 v2 : Value) : FQ w (((((w).alloc (.cells #[.bool p1, u1, .bool q1, v1] 31)).alloc (.cells #[.bool p2, u2, .bool q2, v2] 31)).alloc (.cells #[.bool false, .slice none 0 0, .bool false, .slice none 0 0] 31)).alloc (.cells #[.int .i64 0] 34)) p1 q1 p2 q2 u1 v1 u2 v2 := ⟨by simp [go_sem], by simp [go_sem], by simp [go_sem], by simp [go_sem], by simp [go_sem], by simp [go_sem], by simp [go_sem], by simp [go_sem], by simp [go_sem], by simp [go_sem], by simp [go_sem], by simp [go_sem], by simp [go_sem], by simp [go_sem], by simp [go_sem], by simp [go_sem], by simp [go_sem], by simp [go_sem], by exact bel, by simp⟩
theorem FQ.drew {w W : World} {p1 q1 p2 q2 : Bool} {u1 v1 u2 v2 : Value} (h : FQ w W p1 q1 p2 q2 u1 v1 u2 v2) : FQ w W.drew p1 q1 p2 q2 u1 v1 u2 v2 := ⟨h.a0, h.a1, h.a2, h.a3, h.b0, h.b1, h.b2, h.b3, h.x0, h.x1, h.x2, h.x3, h.e0, h.fx0, h.fx1, h.fx2, h.fx3, h.fe0, h.bl.drew, h.sz⟩
structure FC (w W : World) (p1 q1 p2 q2 : Bool) (u1 v1 u2 v2 : Value) : Prop where
 a0 : W.cell? ⟨w.heap.size, 0, none⟩ = some (.bool p1)
 a1 : W.cell? ⟨w.heap.size, 1, none⟩ = some (u1)
 a2 : W.cell? ⟨w.heap.size, 2, none⟩ = some (.bool q1)
 a3 : W.cell? ⟨w.heap.size, 3, none⟩ = some (v1)
 b0 : W.cell? ⟨w.heap.size + 1, 0, none⟩ = some (.bool p2)
 b1 : W.cell? ⟨w.heap.size + 1, 1, none⟩ = some (u2)
 b2 : W.cell? ⟨w.heap.size + 1, 2, none⟩ = some (.bool q2)
 b3 : W.cell? ⟨w.heap.size + 1, 3, none⟩ = some (v2)
 e0 : W.cell? ⟨w.heap.size + 1 + 1, 0, none⟩ = some (.int .i64 0)
 fe0 : W.frozen? ⟨w.heap.size + 1 + 1, 0, none⟩ = false
 bl : Below w.heap.size w W
 sz : w.heap.size + 3 ≤ W.heap.size
theorem FC.go {w W W' : World} {p1 q1 p2 q2 : Bool} {u1 v1 u2 v2 : Value} (h : FC w W p1 q1 p2 q2 u1 v1 u2 v2) (hb : Below W.heap.size W W') : FC w W' p1 q1 p2 q2 u1 v1 u2 v2 := by
 have hs := h.sz
 have c : ∀ (k o : Nat) (u : Value), k < w.heap.size + 3 → W.cell? ⟨k, o, none⟩ = some u → W'.cell? ⟨k, o, none⟩ = some u := fun k o u hk hu => (hb.cell (p := ⟨k, o, none⟩) (show k < _ by omega)).trans hu
 have f : ∀ (k o : Nat), k < w.heap.size + 3 → W.frozen? ⟨k, o, none⟩ = false → W'.frozen? ⟨k, o, none⟩ = false := fun k o hk hu => (hb.frozen (p := ⟨k, o, none⟩) (show k < _ by omega)).trans hu
 exact ⟨c _ _ _ (by omega) h.a0, c _ _ _ (by omega) h.a1, c _ _ _ (by omega) h.a2, c _ _ _ (by omega) h.a3, c _ _ _ (by omega) h.b0, c _ _ _ (by omega) h.b1, c _ _ _ (by omega) h.b2, c _ _ _ (by omega) h.b3, c _ _ _ (by omega) h.e0, f _ _ (by omega) h.fe0, h.bl.trans (hb.mono h.bl.size), by have := hb.size; omega⟩
theorem FC.start (w : World) (p1 q1 p2 q2 : Bool) (u1 v1 u2 v2 : Value) : FC w ((((w).alloc (.cells #[.bool p1, u1, .bool q1, v1] 31)).alloc (.cells #[.bool p2, u2, .bool q2, v2] 31)).alloc (.cells #[.int .i64 0] 34)) p1 q1 p2 q2 u1 v1 u2 v2 := ⟨by simp [go_sem], by simp [go_sem], by simp [go_sem], by simp [go_sem], by simp [go_sem], by simp [go_sem], by simp [go_sem], by simp [go_sem], by simp [go_sem], by simp [go_sem], by exact bel, by simp⟩
theorem FC.drew {w W : World} {p1 q1 p2 q2 : Bool} {u1 v1 u2 v2 : Value} (h : FC w W p1 q1 p2 q2 u1 v1 u2 v2) : FC w W.drew p1 q1 p2 q2 u1 v1 u2 v2 := ⟨h.a0, h.a1, h.a2, h.a3, h.b0, h.b1, h.b2, h.b3, h.e0, h.fe0, h.bl.drew, h.sz⟩
section
variable {w : World} {M : List Nat}
theorem Sl.rats2 (hM : Bel M w) {a b : Rt} {A1 B1 A2 B2 : Option Addr} {n1 c1 m1 d1 n2 c2 m2 d2 : Nat} (h1 : Sl Int w M A1 n1 c1 (ints (zmag a.num))) (h2 : Sl Int w M B1 m1 d1 (ints (zmag a.den))) (h3 : Sl Int w M A2 n2 c2 (ints (zmag b.num))) (h4 : Sl Int w M B2 m2 d2 (ints (zmag b.den))) :
 Sl RatR (w.alloc (.cells #[.bool (zneg a.num), .slice A1 n1 c1, .bool (zneg a.den), .slice B1 m1 d1, .bool (zneg b.num), .slice A2 n2 c2, .bool (zneg b.den), .slice B2 m2 d2] 31)) M (some ⟨w.heap.size, 0, none⟩) 2 2 ([a, b].map encQ) := by
 refine Sl.lit hM _ (cs := [.bool (zneg a.num), .slice A1 n1 c1, .bool (zneg a.den), .slice B1 m1 d1, .bool (zneg b.num), .slice A2 n2 c2, .bool (zneg b.den), .slice B2 m2 d2]) rfl (by omega) fun k x hk => ?_
 match k, hk with
 | 0, hk =>
   cases hk
   exact ⟨_, rat_rd (x := encQ a) h1 h2, fun j u hu => by
    match j, hu with
    | 0, hu => exact hu
    | 1, hu => exact hu
    | 2, hu => exact hu
    | 3, hu => exact hu⟩
 | 1, hk =>
   cases hk
   exact ⟨_, rat_rd (x := encQ b) h3 h4, fun j u hu => by
    match j, hu with
    | 0, hu => exact hu
    | 1, hu => exact hu
    | 2, hu => exact hu
    | 3, hu => exact hu⟩
structure ZC (w : World) (M : List Nat) (z : Int) (q : Bool) (A : Option Addr) (n c : Nat) : Prop where
 neg : zneg z = q
 sl : Sl Int w M A n c (ints (zmag z))
theorem ZC.go {w w' : World} {M : List Nat} {z : Int} {q : Bool} {A : Option Addr} {n c : Nat} (h : ZC w M z q A n c) (hb : Below w.heap.size w w') : ZC w' M z q A n c := ⟨h.neg, h.sl.go hb⟩
theorem Sl.bigs4 (hM : Bel M w) {z1 z2 z3 z4 : Int} {q1 q2 q3 q4 : Bool} {A1 A2 A3 A4 : Option Addr} {n1 c1 n2 c2 n3 c3 n4 c4 : Nat} (h1 : ZC w M z1 q1 A1 n1 c1) (h2 : ZC w M z2 q2 A2 n2 c2) (h3 : ZC w M z3 q3 A3 n3 c3) (h4 : ZC w M z4 q4 A4 n4 c4) :
 Sl BigR (w.alloc (.cells #[.bool q1, .slice A1 n1 c1, .bool q2, .slice A2 n2 c2, .bool q3, .slice A3 n3 c3, .bool q4, .slice A4 n4 c4] 29)) M (some ⟨w.heap.size, 0, none⟩) 4 4 ([z1, z2, z3, z4].map encB) := by
 refine Sl.lit hM _ (cs := [.bool q1, .slice A1 n1 c1, .bool q2, .slice A2 n2 c2, .bool q3, .slice A3 n3 c3, .bool q4, .slice A4 n4 c4]) rfl (by omega) fun k x hk => ?_
 match k, hk with
 | 0, hk => cases hk; exact ⟨_, rd_big h1.neg h1.sl, fun j u hu => by match j, hu with | 0, hu => exact hu | 1, hu => exact hu⟩
 | 1, hk => cases hk; exact ⟨_, rd_big h2.neg h2.sl, fun j u hu => by match j, hu with | 0, hu => exact hu | 1, hu => exact hu⟩
 | 2, hk => cases hk; exact ⟨_, rd_big h3.neg h3.sl, fun j u hu => by match j, hu with | 0, hu => exact hu | 1, hu => exact hu⟩
 | 3, hk => cases hk; exact ⟨_, rd_big h4.neg h4.sl, fun j u hu => by match j, hu with | 0, hu => exact hu | 1, hu => exact hu⟩
theorem Sl.bigs6 (hM : Bel M w) {z1 z2 z3 z4 z5 z6 : Int} {q1 q2 q3 q4 q5 q6 : Bool} {A1 A2 A3 A4 A5 A6 : Option Addr} {n1 c1 n2 c2 n3 c3 n4 c4 n5 c5 n6 c6 : Nat} (h1 : ZC w M z1 q1 A1 n1 c1) (h2 : ZC w M z2 q2 A2 n2 c2) (h3 : ZC w M z3 q3 A3 n3 c3) (h4 : ZC w M z4 q4 A4 n4 c4) (h5 : ZC w M z5 q5 A5 n5 c5) (h6 : ZC w M z6 q6 A6 n6 c6) :
 Sl BigR (w.alloc (.cells #[.bool q1, .slice A1 n1 c1, .bool q2, .slice A2 n2 c2, .bool q3, .slice A3 n3 c3, .bool q4, .slice A4 n4 c4, .bool q5, .slice A5 n5 c5, .bool q6, .slice A6 n6 c6] 29)) M (some ⟨w.heap.size, 0, none⟩) 6 6 ([z1, z2, z3, z4, z5, z6].map encB) := by
 refine Sl.lit hM _ (cs := [.bool q1, .slice A1 n1 c1, .bool q2, .slice A2 n2 c2, .bool q3, .slice A3 n3 c3, .bool q4, .slice A4 n4 c4, .bool q5, .slice A5 n5 c5, .bool q6, .slice A6 n6 c6]) rfl (by omega) fun k x hk => ?_
 match k, hk with
 | 0, hk => cases hk; exact ⟨_, rd_big h1.neg h1.sl, fun j u hu => by match j, hu with | 0, hu => exact hu | 1, hu => exact hu⟩
 | 1, hk => cases hk; exact ⟨_, rd_big h2.neg h2.sl, fun j u hu => by match j, hu with | 0, hu => exact hu | 1, hu => exact hu⟩
 | 2, hk => cases hk; exact ⟨_, rd_big h3.neg h3.sl, fun j u hu => by match j, hu with | 0, hu => exact hu | 1, hu => exact hu⟩
 | 3, hk => cases hk; exact ⟨_, rd_big h4.neg h4.sl, fun j u hu => by match j, hu with | 0, hu => exact hu | 1, hu => exact hu⟩
 | 4, hk => cases hk; exact ⟨_, rd_big h5.neg h5.sl, fun j u hu => by match j, hu with | 0, hu => exact hu | 1, hu => exact hu⟩
 | 5, hk => cases hk; exact ⟨_, rd_big h6.neg h6.sl, fun j u hu => by match j, hu with | 0, hu => exact hu | 1, hu => exact hu⟩
structure QC (w : World) (M : List Nat) (r : Rt) (p q : Bool) (A : Option Addr) (n c : Nat) (B : Option Addr) (m d : Nat) : Prop where
 num : ZC w M r.num p A n c
 den : ZC w M r.den q B m d
theorem QC.go {w w' : World} {M : List Nat} {r : Rt} {p q : Bool} {A B : Option Addr} {n c m d : Nat} (h : QC w M r p q A n c B m d) (hb : Below w.heap.size w w') : QC w' M r p q A n c B m d := ⟨h.num.go hb, h.den.go hb⟩
theorem QC.more {w : World} {M : List Nat} {r : Rt} {p q : Bool} {A B : Option Addr} {n c m d b : Nat} (h : QC w M r p q A n c B m d) (hb : w.heap.size ≤ b) : QC w (b :: M) r p q A n c B m d := ⟨⟨h.num.neg, h.num.sl.more hb⟩, ⟨h.den.neg, h.den.sl.more hb⟩⟩
theorem QC.qw {w : World} {M : List Nat} {r : Rt} {p q : Bool} {A B : Option Addr} {n c m d : Nat} (h : QC w M r p q A n c B m d) : QW w M (.agg #[.bool p, .slice A n c, .bool q, .slice B m d]) r :=
 ⟨A, n, c, B, m, d, by rw [h.num.neg, h.den.neg], h.num.sl, h.den.sl⟩
theorem QC.of {w : World} {M : List Nat} {v : Value} {r : Rt} (h : QW w M v r) : ∃ p q A n c B m d, v = .agg #[.bool p, .slice A n c, .bool q, .slice B m d] ∧ QC w M r p q A n c B m d := by
 obtain ⟨A, n, c, B, m, d, rfl, h1, h2⟩ := h
 exact ⟨_, _, A, n, c, B, m, d, rfl, ⟨rfl, h1⟩, ⟨rfl, h2⟩⟩
theorem Sl.rats (hM : Bel M w) {a b : Rt} {p1 q1 p2 q2 : Bool} {A1 B1 A2 B2 : Option Addr} {n1 c1 m1 d1 n2 c2 m2 d2 : Nat} (h1 : QC w M a p1 q1 A1 n1 c1 B1 m1 d1) (h2 : QC w M b p2 q2 A2 n2 c2 B2 m2 d2) :
 Sl RatR (w.alloc (.cells #[.bool p1, .slice A1 n1 c1, .bool q1, .slice B1 m1 d1, .bool p2, .slice A2 n2 c2, .bool q2, .slice B2 m2 d2] 31)) M (some ⟨w.heap.size, 0, none⟩) 2 2 ([a, b].map encQ) := by
 rw [← h1.num.neg, ← h1.den.neg, ← h2.num.neg, ← h2.den.neg]
 exact Sl.rats2 hM h1.num.sl h1.den.sl h2.num.sl h2.den.sl
end
def QR (w : World) (M : List Nat) (x : Rt) (e : Ending) (w' : World) : Prop := ∃ u, e = .returned (.tuple #[u, .int .i64 0]) ∧ QW w' M u x ∧ Below w.heap.size w w'
theorem Bel.cons {M : List Nat} {w : World} {b : Nat} (h : Bel M w) (hb : b < w.heap.size) : Bel (b :: M) w := fun k hk => by
 rcases List.mem_cons.1 hk with rfl | hk
 · exact hb
 · exact h k hk
theorem cmpI_Q (a b : Rt) : cmpI (a.num * b.den) (b.num * a.den) = cmpQ a b := rfl
theorem Sl.two {w : World} {M : List Nat} {O : Option Addr} {c : Nat} {x y : Int} (h : Sl BigR w M O 2 c [encB x, encB y]) :
 ∃ b o p A n k q B m d, O = some ⟨b, o, none⟩ ∧ (w.cell? ⟨b, o, none⟩ = some (.bool p) ∧ w.cell? ⟨b, o + 1, none⟩ = some (.slice A n k) ∧ w.cell? ⟨b, o + 2, none⟩ = some (.bool q) ∧ w.cell? ⟨b, o + 3, none⟩ = some (.slice B m d)) ∧ ZC w M x p A n k ∧ ZC w M y q B m d := by
 obtain ⟨b, o, A, n, k, rfl, h0, h1, h2⟩ := h.bigd (k := 0) (neg := zneg x) (l := ints (zmag x)) rfl
 obtain ⟨b', o', B, m, d, e, h3, h4, h5⟩ := h.bigd (k := 1) (neg := zneg y) (l := ints (zmag y)) rfl
 obtain ⟨rfl, rfl⟩ : b = b' ∧ o = o' := by simpa using e
 exact ⟨b, o, _, A, n, k, _, B, m, d, rfl, ⟨h0, h1, h3, h4⟩, ⟨rfl, h2⟩, ⟨rfl, h5⟩⟩
theorem Sl.three {w : World} {M : List Nat} {O : Option Addr} {c : Nat} {x y z : Int} (h : Sl BigR w M O 3 c [encB x, encB y, encB z]) :
 ∃ b o p A n k q B m d r E i j, O = some ⟨b, o, none⟩ ∧ (w.cell? ⟨b, o, none⟩ = some (.bool p) ∧ w.cell? ⟨b, o + 1, none⟩ = some (.slice A n k) ∧ w.cell? ⟨b, o + 2, none⟩ = some (.bool q) ∧ w.cell? ⟨b, o + 3, none⟩ = some (.slice B m d) ∧ w.cell? ⟨b, o + 4, none⟩ = some (.bool r) ∧ w.cell? ⟨b, o + 5, none⟩ = some (.slice E i j)) ∧
  ZC w M x p A n k ∧ ZC w M y q B m d ∧ ZC w M z r E i j := by
 obtain ⟨b, o, A, n, k, rfl, h0, h1, h2⟩ := h.bigd (k := 0) (neg := zneg x) (l := ints (zmag x)) rfl
 obtain ⟨b', o', B, m, d, e, h3, h4, h5⟩ := h.bigd (k := 1) (neg := zneg y) (l := ints (zmag y)) rfl
 obtain ⟨b2, o2, E, i, j, e2, h6, h7, h8⟩ := h.bigd (k := 2) (neg := zneg z) (l := ints (zmag z)) rfl
 obtain ⟨rfl, rfl⟩ : b = b' ∧ o = o' := by simpa using e
 obtain ⟨rfl, rfl⟩ : b = b2 ∧ o = o2 := by simpa using e2
 exact ⟨b, o, _, A, n, k, _, B, m, d, _, E, i, j, rfl, ⟨h0, h1, h3, h4, h6, h7⟩, ⟨rfl, h2⟩, ⟨rfl, h5⟩, ⟨rfl, h8⟩⟩
theorem ZC.zv {w : World} {M : List Nat} {z : Int} {q : Bool} {A : Option Addr} {n c : Nat} (h : ZC w M z q A n c) : ZV w M (.agg #[.bool q, .slice A n c]) z := ⟨A, n, c, by rw [h.neg], h.sl⟩
theorem ZC.drew {w : World} {M : List Nat} {z : Int} {q : Bool} {A : Option Addr} {n c : Nat} (h : ZC w M z q A n c) : ZC w.drew M z q A n c := ⟨h.neg, h.sl.keep (Keeps.refl _ _).drew⟩
theorem ZC.of {w : World} {M : List Nat} {v : Value} {z : Int} (h : ZV w M v z) : ∃ q A n c, v = .agg #[.bool q, .slice A n c] ∧ ZC w M z q A n c := by
 obtain ⟨A, n, c, rfl, h⟩ := h
 exact ⟨_, A, n, c, rfl, ⟨rfl, h⟩⟩
set_option maxHeartbeats 4000000 in
theorem qCmp_any {M : List Nat} {va vb : Value} {a b : Rt} {w : World} (hM : Bel M w) (ha : QW w M va a) (hb : QW w M vb b) (oa : a.ok) (ob : b.ok) (hf : Fine a b) :
 Calls Tryz.prog 22 #[va, vb] w (CR w (cmpQ a b)) := by
 refine wid ?_
 obtain ⟨p1, q1, A1, n1, c1, B1, m1, d1, rfl, qa⟩ := QC.of ha
 obtain ⟨p2, q2, A2, n2, c2, B2, m2, d2, rfl, qb⟩ := QC.of hb
 obtain ⟨W1, hW1⟩ : ∃ W1 : World, (((w).alloc (.cells #[.bool p1, .slice A1 n1 c1, .bool q1, .slice B1 m1 d1] 31)).alloc (.cells #[.bool p2, .slice A2 n2 c2, .bool q2, .slice B2 m2 d2] 31)).alloc (.cells #[.int .i64 0] 34) = W1 := ⟨_, rfl⟩
 have F1 : FC w W1 p1 q1 p2 q2 (.slice A1 n1 c1) (.slice B1 m1 d1) (.slice A2 n2 c2) (.slice B2 m2 d2) := by rw [← hW1]; exact FC.start w _ _ _ _ _ _ _ _
 have ha2 : QC W1 ((w.heap.size + 1 + 1) :: M) a p1 q1 A1 n1 c1 B1 m1 d1 := (qa.more (b := w.heap.size + 1 + 1) (by omega)).go F1.bl
 have hb2 : QC W1 ((w.heap.size + 1 + 1) :: M) b p2 q2 A2 n2 c2 B2 m2 d2 := (qb.more (b := w.heap.size + 1 + 1) (by omega)).go F1.bl
 have hM2 : Bel ((w.heap.size + 1 + 1) :: M) W1 := (hM.le F1.bl.size).cons (by have := F1.sz; omega)
 have SV := Sl.rats hM2 ha2 hb2
 have X := Hd3 ha2 hb2 hM2
 have HSV := Hd SV
 have HO := Hd3 oa ob hf
 have F := Hd F1
 have lay_q := F1; obtain ⟨ea0, ea1, ea2, ea3, eb0, eb1, eb2, eb3, ee0, efe0, -, -⟩ := lay_q
 clear ha hb qa qb ha2 hb2 hM hM2 SV oa ob hf
 refine entd Tryz.func22 rfl Tryz.ntmps22 ?_
 gi_wp2_with (first
  | (refine ⟨trivial, ?_⟩; gi_at_call 44; have g := G2.out; clear g
     refine Cn (products_any (M := (w.heap.size + 1 + 1) :: M) _ 4 4 2 [a.num, b.den, b.num, a.den] _ ((X.out.2.2.le G2.out.2.size).le (by simp)) (Sl.bigs4 (X.out.2.2.le G2.out.2.size) (X.out.1.go G2.out.2).num (X.out.2.1.go G2.out.2).den (X.out.2.1.go G2.out.2).num (X.out.1.go G2.out.2).den) (by simp [HO.out.1.fn, HO.out.1.fd, HO.out.2.1.fn, HO.out.2.1.fd]) (by simp [pairsM, HO.out.2.2.nd, HO.out.2.2.dn, HO.out.2.2.dd, HO.out.2.2.nn]) rfl (by omega)) ?_; rintro e w4 ⟨O, cO, rfl, hs4, hb4⟩; have hb5 : Below W1.heap.size W1 w4 := (G2.out.2.alloc G2.out.2.size _).trans (hb4.mono (by simp; have := G2.out.2.size; omega)); have F4 := F.out.go hb5; have F4d := F4.drew; have lay_q := F4d; obtain ⟨ya0, ya1, ya2, ya3, yb0, yb1, yb2, yb3, ye0, yfe0, -, -⟩ := lay_q; obtain ⟨b0, o0, s1, S1, i1, j1, s2, S2, i2, j2, rfl, ⟨c0, k1, k2, k3⟩, hz1, hz2⟩ := Sl.two hs4; have G4 := Hd4 F4d hz1 hz2 ((X.out.2.2.le hb5.size).le (w' := w4.drew) (Nat.le_refl _))
     clear hb4 hb5 F4 F4d)
  | (refine Cl 43 (valid_any (M := (w.heap.size + 1 + 1) :: M) _ 2 2 [a, b] _ (X.out.2.2.le (by simp)) HSV.out (by simp [HO.out.1, HO.out.2.1])) ?_
     rintro e w2 ⟨rfl, hb2⟩; have hb3 : Below W1.heap.size W1 w2 := ((Below.refl W1.heap.size W1).alloc (Nat.le_refl _) _).trans (hb2.mono (by simp)); have F2 := F.out.go hb3; have lay_q := F2; obtain ⟨ua0, ua1, ua2, ua3, ub0, ub1, ub2, ub3, ue0, ufe0, -, -⟩ := lay_q; have G2 := Hd2 F2 hb3
     clear hb2 hb3 F2)
  | fail)
 have v0 := stays_drew c0
 have v1 := stays_drew k1
 have v2 := stays_drew k2
 have v3 := stays_drew k3
 clear c0 k1 k2 k3
 refine region_E_np [] 10 (by kernel_rfl) (by kernel_rfl) ?_
 refine E_rd 0 ?_; refine E_rd 1 ?_; refine E_rd 2 ?_; refine E_rd 3 ?_; refine E_rd 4 ?_; refine E_rd 5 ?_
 refine E_al 6 fun K hK => ?_; gi_wp2
 refine Cm (nCmp_any (a := a.num * b.den) (b := b.num * a.den) G4.out.2.2.2 G4.out.2.1.drew.zv G4.out.2.2.1.drew.zv HO.out.2.2.nd HO.out.2.2.dn) ?_
 rintro e w5 ⟨rfl, hb5⟩
 have F5 := G4.out.1.go hb5
 have lay_q := F5; obtain ⟨ta0, ta1, ta2, ta3, tb0, tb1, tb2, tb3, te0, tfe0, -, -⟩ := lay_q
 have G5 := Hd F5
 clear F5
 refine hK _ _ ⟨?_, ?_⟩; clear hK K
 · exact Keeps.of_below hb5 []
 refine lit ?_
 clear hb5
 refine E_rd 7 ?_; refine E_rd 8 ?_
 refine E_al 9 fun K hK => ?_; gi_wp2
 refine Cm (didI_yes _ _) ?_
 rintro e w6 ⟨rfl, rfl⟩
 refine hK _ _ ⟨?_, ?_⟩; clear hK K
 · exact Keeps.refl _ _
 refine lit ?_
 refine E_nl 2 ?_; refine tls fun K hK K' hK' => ?_; gi_wp2; refine tls fun K hK K' hK' => ?_; gi_wp2; refine tail_nil _ ?_; simp only [npost]; gi_wp2
 refine leavesIn_cons (f := 42) (args := #[.pointer (some ⟨w.heap.size + 1 + 1, 0, none⟩)]) (by simp) (by simp) (by simp [go_sem]) (fun _ _ => trivial) ?_
 refine (caughtQ_idle ⟨w.heap.size + 1 + 1, 0, none⟩ _).mono ?_
 rintro e u' w'' ⟨rfl, rfl, rfl⟩
 have r2 := cell_same (u := .int .i64 0) te0
 refine ⟨.tuple #[.int .i64 (cmpQ a b), .int .i64 0], ?_, rfl, G5.out.bl.setCell (p := ⟨w.heap.size + 1 + 1, 0, none⟩) (by simp; omega) _⟩
 rw [← cmpI_Q]
 simp [results, Tryz.results22, go_sem, te0]
end
section
open Go.RowKit Go.Shelf
attribute [local go_sem] Oper.semAt_some
theorem low_zc {M : List Nat} {A B : Option Addr} {k1 c1 k2 c2 : Nat} {n d : Int} {q1 q2 : Bool} {w : World} (hM : Bel M w) (hx : ZC w M n q1 A k1 c1) (hy : ZC w M d q2 B k2 c2) (fn : fits n = true) (fd : fits d = true) (h0 : d ≠ 0) :
 Calls Tryz.prog 111 #[.agg #[.bool q1, .slice A k1 c1, .bool q2, .slice B k2 c2]] w fun e w' => ∃ p q A n' c B m d', e = .returned (.agg #[.bool p, .slice A n' c, .bool q, .slice B m d']) ∧ QC w' M (lowM n d) p q A n' c B m d' ∧ Below w.heap.size w w' := by
 obtain ⟨rfl, hx⟩ := hx
 obtain ⟨rfl, hy⟩ := hy
 refine (lowest_any hM hx hy fn fd h0).mono ?_
 rintro e w' ⟨u, rfl, hq, hb⟩
 obtain ⟨p, q, A, n, c, B, m, d, rfl, h⟩ := QC.of hq
 exact ⟨p, q, A, n, c, B, m, d, rfl, h, hb⟩
set_option maxHeartbeats 4000000 in
theorem qMul_any {M : List Nat} {va vb : Value} {a b : Rt} {w : World} (hM : Bel M w) (ha : QW w M va a) (hb : QW w M vb b) (oa : a.ok) (ob : b.ok) (hf : Fine a b) :
 Calls Tryz.prog 67 #[va, vb] w (QR w M (mulQ a b)) := by
 refine wid ?_
 obtain ⟨p1, q1, A1, n1, c1, B1, m1, d1, rfl, qa⟩ := QC.of ha
 obtain ⟨p2, q2, A2, n2, c2, B2, m2, d2, rfl, qb⟩ := QC.of hb
 obtain ⟨W1, hW1⟩ : ∃ W1 : World, ((((w).alloc (.cells #[.bool p1, .slice A1 n1 c1, .bool q1, .slice B1 m1 d1] 31)).alloc (.cells #[.bool p2, .slice A2 n2 c2, .bool q2, .slice B2 m2 d2] 31)).alloc (.cells #[.bool false, .slice none 0 0, .bool false, .slice none 0 0] 31)).alloc (.cells #[.int .i64 0] 34) = W1 := ⟨_, rfl⟩
 have F1 : FQ w W1 p1 q1 p2 q2 (.slice A1 n1 c1) (.slice B1 m1 d1) (.slice A2 n2 c2) (.slice B2 m2 d2) := by rw [← hW1]; exact FQ.start w _ _ _ _ _ _ _ _
 obtain ⟨MM, hMM⟩ : ∃ MM, (w.heap.size + 1 + 1) :: (w.heap.size + 1 + 1 + 1) :: M = MM := ⟨_, rfl⟩
 have ha2 : QC W1 MM a p1 q1 A1 n1 c1 B1 m1 d1 := by rw [← hMM]; exact ((qa.more (b := w.heap.size + 1 + 1 + 1) (by omega)).more (b := w.heap.size + 1 + 1) (by omega)).go F1.bl
 have hb2 : QC W1 MM b p2 q2 A2 n2 c2 B2 m2 d2 := by rw [← hMM]; exact ((qb.more (b := w.heap.size + 1 + 1 + 1) (by omega)).more (b := w.heap.size + 1 + 1) (by omega)).go F1.bl
 have hM2 : Bel MM W1 := by rw [← hMM]; exact ((hM.le F1.bl.size).cons (by have := F1.sz; omega)).cons (by have := F1.sz; omega)
 have SV := Sl.rats hM2 ha2 hb2
 have X := Hd3 ha2 hb2 hM2
 have HSV := Hd SV
 have HO := Hd3 oa ob hf
 have HMM := Hd hMM
 have F := Hd F1
 have lay_q := F1; obtain ⟨ea0, ea1, ea2, ea3, eb0, eb1, eb2, eb3, ex0, ex1, ex2, ex3, ee0, efx0, efx1, efx2, efx3, efe0, -, -⟩ := lay_q
 clear ha hb qa qb ha2 hb2 hM hM2 SV oa ob hf hMM
 refine entd Tryz.func67 rfl Tryz.ntmps67 ?_
 gi_wp2_with (first
  | (refine ⟨trivial, ?_⟩; gi_at_call 44; have g := G2.out; clear g
     refine Cn (products_any (M := MM) _ 4 4 2 [a.num, b.num, a.den, b.den] _ ((X.out.2.2.le G2.out.2.size).le (by simp)) (Sl.bigs4 (X.out.2.2.le G2.out.2.size) (X.out.1.go G2.out.2).num (X.out.2.1.go G2.out.2).num (X.out.1.go G2.out.2).den (X.out.2.1.go G2.out.2).den) (by simp [HO.out.1.fn, HO.out.1.fd, HO.out.2.1.fn, HO.out.2.1.fd]) (by simp [pairsM, HO.out.2.2.nd, HO.out.2.2.dn, HO.out.2.2.dd, HO.out.2.2.nn]) rfl (by omega)) ?_; rintro e w4 ⟨O, cO, rfl, hs4, hb4⟩; have hb5 : Below W1.heap.size W1 w4 := (G2.out.2.alloc G2.out.2.size _).trans (hb4.mono (by simp; have := G2.out.2.size; omega)); have F4 := F.out.go hb5; have F4d := F4.drew; have lay_q := F4d; obtain ⟨ya0, ya1, ya2, ya3, yb0, yb1, yb2, yb3, yx0, yx1, yx2, yx3, ye0, yfx0, yfx1, yfx2, yfx3, yfe0, -, -⟩ := lay_q; obtain ⟨b0, o0, s1, S1, i1, j1, s2, S2, i2, j2, rfl, ⟨c0, k1, k2, k3⟩, hz1, hz2⟩ := Sl.two hs4; have G4 := Hd4 F4d (X.out.2.2.le (w' := w4.drew) hb5.size) hz1.drew hz2.drew
     clear hb4 hb5 F4 F4d)
  | (refine Cl 43 (valid_any (M := MM) _ 2 2 [a, b] _ (X.out.2.2.le (by simp)) HSV.out (by simp [HO.out.1, HO.out.2.1])) ?_
     rintro e w2 ⟨rfl, hb2⟩; have hb3 : Below W1.heap.size W1 w2 := ((Below.refl W1.heap.size W1).alloc (Nat.le_refl _) _).trans (hb2.mono (by simp)); have F2 := F.out.go hb3; have lay_q := F2; obtain ⟨ua0, ua1, ua2, ua3, ub0, ub1, ub2, ub3, ux0, ux1, ux2, ux3, ue0, ufx0, ufx1, ufx2, ufx3, ufe0, -, -⟩ := lay_q; have G2 := Hd2 F2 hb3
     clear hb2 hb3 F2)
  | fail)
 have v0 := stays_drew c0
 have v1 := stays_drew k1
 have v2 := stays_drew k2
 have v3 := stays_drew k3
 clear c0 k1 k2 k3
 refine region_E_np [] 9 (by kernel_rfl) (by kernel_rfl) ?_
 refine E_rd 0 ?_; refine E_rd 1 ?_; refine E_rd 2 ?_; refine E_rd 3 ?_; refine E_rd 4 ?_; refine E_rd 5 ?_; refine E_rd 6 ?_; refine E_rd 7 ?_
 refine E_al 8 fun K hK => ?_; gi_wp2
 refine Cm (low_zc (n := a.num * b.num) (d := a.den * b.den) G4.out.2.1 G4.out.2.2.1 G4.out.2.2.2 HO.out.2.2.nn HO.out.2.2.dd (by have := Int.mul_pos HO.out.1.pos HO.out.2.1.pos; omega)) ?_
 rintro e w7 ⟨p7, q7, A7, n7, c7, B7, m7, d7, rfl, hq7, hb7⟩
 have F7 := G4.out.1.go hb7
 have lay_q := F7; obtain ⟨ta0, ta1, ta2, ta3, tb0, tb1, tb2, tb3, tx0, tx1, tx2, tx3, te0, tfx0, tfx1, tfx2, tfx3, tfe0, -, -⟩ := lay_q
 have G7 := Hd2 F7 hq7
 clear F7 hq7
 refine hK _ _ ⟨?_, ?_⟩; clear hK K
 · exact Keeps.of_below hb7 []
 refine lit ?_
 clear hb7
 refine E_nl 2 ?_; refine tls fun K hK K' hK' => ?_; gi_wp2; refine tls fun K hK K' hK' => ?_; gi_wp2; refine tail_nil _ ?_; simp only [npost]; gi_wp2
 obtain ⟨wF, hwF, t0, t1, t2, t3, t5, hQ, bF⟩ := fin5 (M := M) (MM := MM) tx0 tx1 tx2 tx3 te0 G7.out.2.qw (fun k hk => by rw [← HMM.out]; simp [hk]) (by rw [← HMM.out]; simp) (by rw [← HMM.out]; simp) (by omega) G7.out.1.bl (by omega) (by omega)
 refine leavesIn_cons (f := 42) (args := #[.pointer (some ⟨w.heap.size + 1 + 1 + 1, 0, none⟩)]) (by simp) (by simp) (by simp [go_sem]) (fun _ _ => trivial) ?_
 rw [hwF]
 refine (caughtQ_idle ⟨w.heap.size + 1 + 1 + 1, 0, none⟩ _).mono ?_
 rintro e u' w'' ⟨rfl, rfl, rfl⟩
 refine ⟨.tuple #[.agg #[.bool p7, .slice A7 n7 c7, .bool q7, .slice B7 m7 d7], .int .i64 0], ?_, _, rfl, hQ, bF⟩
 simp [results, Tryz.results67, go_sem, t0, t1, t2, t3, t5]
set_option maxHeartbeats 4000000 in
theorem qAdd_any {M : List Nat} {va vb : Value} {a b : Rt} {w : World} (hM : Bel M w) (ha : QW w M va a) (hb : QW w M vb b) (oa : a.ok) (ob : b.ok) (hf : Fine a b) :
 Calls Tryz.prog 63 #[va, vb] w (QR w M (addQ a b)) := by
 refine wid ?_
 obtain ⟨p1, q1, A1, n1, c1, B1, m1, d1, rfl, qa⟩ := QC.of ha
 obtain ⟨p2, q2, A2, n2, c2, B2, m2, d2, rfl, qb⟩ := QC.of hb
 obtain ⟨W1, hW1⟩ : ∃ W1 : World, ((((w).alloc (.cells #[.bool p1, .slice A1 n1 c1, .bool q1, .slice B1 m1 d1] 31)).alloc (.cells #[.bool p2, .slice A2 n2 c2, .bool q2, .slice B2 m2 d2] 31)).alloc (.cells #[.bool false, .slice none 0 0, .bool false, .slice none 0 0] 31)).alloc (.cells #[.int .i64 0] 34) = W1 := ⟨_, rfl⟩
 have F1 : FQ w W1 p1 q1 p2 q2 (.slice A1 n1 c1) (.slice B1 m1 d1) (.slice A2 n2 c2) (.slice B2 m2 d2) := by rw [← hW1]; exact FQ.start w _ _ _ _ _ _ _ _
 obtain ⟨MM, hMM⟩ : ∃ MM, (w.heap.size + 1 + 1) :: (w.heap.size + 1 + 1 + 1) :: M = MM := ⟨_, rfl⟩
 have ha2 : QC W1 MM a p1 q1 A1 n1 c1 B1 m1 d1 := by rw [← hMM]; exact ((qa.more (b := w.heap.size + 1 + 1 + 1) (by omega)).more (b := w.heap.size + 1 + 1) (by omega)).go F1.bl
 have hb2 : QC W1 MM b p2 q2 A2 n2 c2 B2 m2 d2 := by rw [← hMM]; exact ((qb.more (b := w.heap.size + 1 + 1 + 1) (by omega)).more (b := w.heap.size + 1 + 1) (by omega)).go F1.bl
 have hM2 : Bel MM W1 := by rw [← hMM]; exact ((hM.le F1.bl.size).cons (by have := F1.sz; omega)).cons (by have := F1.sz; omega)
 have SV := Sl.rats hM2 ha2 hb2
 have X := Hd3 ha2 hb2 hM2
 have HSV := Hd SV
 have HO := Hd3 oa ob hf
 have HMM := Hd hMM
 have F := Hd F1
 have lay_q := F1; obtain ⟨ea0, ea1, ea2, ea3, eb0, eb1, eb2, eb3, ex0, ex1, ex2, ex3, ee0, efx0, efx1, efx2, efx3, efe0, -, -⟩ := lay_q
 clear ha hb qa qb ha2 hb2 hM hM2 SV oa ob hf hMM
 refine entd Tryz.func63 rfl Tryz.ntmps63 ?_
 gi_wp2_with (first
  | (refine ⟨trivial, ?_⟩; gi_at_call 44; have g := G2.out; clear g
     refine Cn (products_any (M := MM) _ 6 6 3 [a.num, b.den, b.num, a.den, a.den, b.den] _ ((X.out.2.2.le G2.out.2.size).le (by simp)) (Sl.bigs6 (X.out.2.2.le G2.out.2.size) (X.out.1.go G2.out.2).num (X.out.2.1.go G2.out.2).den (X.out.2.1.go G2.out.2).num (X.out.1.go G2.out.2).den (X.out.1.go G2.out.2).den (X.out.2.1.go G2.out.2).den) (by simp [HO.out.1.fn, HO.out.1.fd, HO.out.2.1.fn, HO.out.2.1.fd]) (by simp [pairsM, HO.out.2.2.nd, HO.out.2.2.dn, HO.out.2.2.dd, HO.out.2.2.nn]) rfl (by omega)) ?_; rintro e w4 ⟨O, cO, rfl, hs4, hb4⟩; have hb5 : Below W1.heap.size W1 w4 := (G2.out.2.alloc G2.out.2.size _).trans (hb4.mono (by simp; have := G2.out.2.size; omega)); have F4 := F.out.go hb5; have F4d := F4.drew; have lay_q := F4d; obtain ⟨ya0, ya1, ya2, ya3, yb0, yb1, yb2, yb3, yx0, yx1, yx2, yx3, ye0, yfx0, yfx1, yfx2, yfx3, yfe0, -, -⟩ := lay_q; obtain ⟨b0, o0, s1, S1, i1, j1, s2, S2, i2, j2, s3, S3, i3, j3, rfl, ⟨c0, k1, k2, k3, k4, k5⟩, hz1, hz2, hz3⟩ := Sl.three hs4; have G4 := Hd5 F4d (X.out.2.2.le (w' := w4.drew) hb5.size) hz1.drew hz2.drew hz3.drew
     clear hb4 hb5 F4 F4d)
  | (refine Cl 43 (valid_any (M := MM) _ 2 2 [a, b] _ (X.out.2.2.le (by simp)) HSV.out (by simp [HO.out.1, HO.out.2.1])) ?_
     rintro e w2 ⟨rfl, hb2⟩; have hb3 : Below W1.heap.size W1 w2 := ((Below.refl W1.heap.size W1).alloc (Nat.le_refl _) _).trans (hb2.mono (by simp)); have F2 := F.out.go hb3; have lay_q := F2; obtain ⟨ua0, ua1, ua2, ua3, ub0, ub1, ub2, ub3, ux0, ux1, ux2, ux3, ue0, ufx0, ufx1, ufx2, ufx3, ufe0, -, -⟩ := lay_q; have G2 := Hd2 F2 hb3
     clear hb2 hb3 F2)
  | fail)
 have v0 := stays_drew c0
 have v1 := stays_drew k1
 have v2 := stays_drew k2
 have v3 := stays_drew k3
 have v4 := stays_drew k4
 have v5 := stays_drew k5
 clear c0 k1 k2 k3 k4 k5
 refine region_E_np [] 16 (by kernel_rfl) (by kernel_rfl) ?_
 refine E_rd 0 ?_; refine E_rd 1 ?_; refine E_rd 2 ?_; refine E_rd 3 ?_; refine E_rd 4 ?_; refine E_rd 5 ?_
 refine E_rd 10 ?_; refine E_rd 11 ?_; refine E_rd 12 ?_
 refine E_al 6 fun K hK => ?_; gi_wp2
 refine Cm (nAdd_any (a := a.num * b.den) (b := b.num * a.den) G4.out.2.1 G4.out.2.2.1.zv G4.out.2.2.2.1.zv HO.out.2.2.nd HO.out.2.2.dn) ?_
 rintro e w5 ⟨u5, rfl, hz5, hb5⟩
 rw [limI_ok HO.out.2.2.ad]
 rw [limZ_ok HO.out.2.2.ad] at hz5
 obtain ⟨q5, A5, n5, c5, rfl, hy5⟩ := ZC.of hz5
 have G5 := Hd4 (G4.out.1.go hb5) hy5 (G4.out.2.2.2.2.go hb5) (G4.out.2.1.le hb5.size)
 clear hz5 hy5
 refine hK _ _ ⟨?_, ?_⟩; clear hK K
 · exact Keeps.of_below hb5 []
 refine lit ?_
 clear hb5
 refine E_rd 7 ?_; refine E_rd 8 ?_
 refine E_al 9 fun K hK => ?_; gi_wp2
 refine Cm (didB_yes G5.out.2.1.zv) ?_
 rintro e w6 ⟨rfl, -, hb6⟩
 have G6 := Hd4 (G5.out.1.go hb6) (G5.out.2.1.go hb6) (G5.out.2.2.1.go hb6) (G5.out.2.2.2.le hb6.size)
 refine hK _ _ ⟨?_, ?_⟩; clear hK K
 · exact Keeps.of_below hb6 []
 refine lit ?_
 clear hb6
 refine E_rd 13 ?_; refine E_rd 14 ?_
 refine E_al 15 fun K hK => ?_; gi_wp2
 refine Cm (low_zc (n := a.num * b.den + b.num * a.den) (d := a.den * b.den) G6.out.2.2.2 G6.out.2.1 G6.out.2.2.1 HO.out.2.2.ad HO.out.2.2.dd (by have := Int.mul_pos HO.out.1.pos HO.out.2.1.pos; omega)) ?_
 rintro e w7 ⟨p7, q7, A7, n7, c7, B7, m7, d7, rfl, hq7, hb7⟩
 have F7 := G6.out.1.go hb7
 have lay_q := F7; obtain ⟨ta0, ta1, ta2, ta3, tb0, tb1, tb2, tb3, tx0, tx1, tx2, tx3, te0, tfx0, tfx1, tfx2, tfx3, tfe0, -, -⟩ := lay_q
 have G7 := Hd2 F7 hq7
 clear F7 hq7
 refine hK _ _ ⟨?_, ?_⟩; clear hK K
 · exact Keeps.of_below hb7 []
 refine lit ?_
 clear hb7
 refine E_nl 2 ?_; refine tls fun K hK K' hK' => ?_; gi_wp2; refine tls fun K hK K' hK' => ?_; gi_wp2; refine tail_nil _ ?_; simp only [npost]; gi_wp2
 obtain ⟨wF, hwF, t0, t1, t2, t3, t5, hQ, bF⟩ := fin5 (M := M) (MM := MM) tx0 tx1 tx2 tx3 te0 G7.out.2.qw (fun k hk => by rw [← HMM.out]; simp [hk]) (by rw [← HMM.out]; simp) (by rw [← HMM.out]; simp) (by omega) G7.out.1.bl (by omega) (by omega)
 refine leavesIn_cons (f := 42) (args := #[.pointer (some ⟨w.heap.size + 1 + 1 + 1, 0, none⟩)]) (by simp) (by simp) (by simp [go_sem]) (fun _ _ => trivial) ?_
 rw [hwF]
 refine (caughtQ_idle ⟨w.heap.size + 1 + 1 + 1, 0, none⟩ _).mono ?_
 rintro e u' w'' ⟨rfl, rfl, rfl⟩
 refine ⟨.tuple #[.agg #[.bool p7, .slice A7 n7 c7, .bool q7, .slice B7 m7 d7], .int .i64 0], ?_, _, rfl, hQ, bF⟩
 simp [results, Tryz.results63, go_sem, t0, t1, t2, t3, t5]
end
section
open Go.RowKit Go.Shelf
attribute [local go_sem] Oper.semAt_some
structure FS (w W : World) (p1 q1 p2 q2 : Bool) (u1 v1 u2 v2 : Value) : Prop where
 a0 : W.cell? ⟨w.heap.size, 0, none⟩ = some (.bool p1)
 a1 : W.cell? ⟨w.heap.size, 1, none⟩ = some (u1)
 a2 : W.cell? ⟨w.heap.size, 2, none⟩ = some (.bool q1)
 a3 : W.cell? ⟨w.heap.size, 3, none⟩ = some (v1)
 b0 : W.cell? ⟨w.heap.size + 1, 0, none⟩ = some (.bool p2)
 b1 : W.cell? ⟨w.heap.size + 1, 1, none⟩ = some (u2)
 b2 : W.cell? ⟨w.heap.size + 1, 2, none⟩ = some (.bool q2)
 b3 : W.cell? ⟨w.heap.size + 1, 3, none⟩ = some (v2)
 x0 : W.cell? ⟨w.heap.size + 1 + 1, 0, none⟩ = some (.bool false)
 x1 : W.cell? ⟨w.heap.size + 1 + 1, 1, none⟩ = some (.slice none 0 0)
 x2 : W.cell? ⟨w.heap.size + 1 + 1, 2, none⟩ = some (.bool false)
 x3 : W.cell? ⟨w.heap.size + 1 + 1, 3, none⟩ = some (.slice none 0 0)
 e0 : W.cell? ⟨w.heap.size + 1 + 1 + 1, 0, none⟩ = some (.int .i64 0)
 fb0 : W.frozen? ⟨w.heap.size + 1, 0, none⟩ = false
 fb1 : W.frozen? ⟨w.heap.size + 1, 1, none⟩ = false
 fb2 : W.frozen? ⟨w.heap.size + 1, 2, none⟩ = false
 fb3 : W.frozen? ⟨w.heap.size + 1, 3, none⟩ = false
 fx0 : W.frozen? ⟨w.heap.size + 1 + 1, 0, none⟩ = false
 fx1 : W.frozen? ⟨w.heap.size + 1 + 1, 1, none⟩ = false
 fx2 : W.frozen? ⟨w.heap.size + 1 + 1, 2, none⟩ = false
 fx3 : W.frozen? ⟨w.heap.size + 1 + 1, 3, none⟩ = false
 fe0 : W.frozen? ⟨w.heap.size + 1 + 1 + 1, 0, none⟩ = false
 bl : Below w.heap.size w W
 sz : w.heap.size + 4 ≤ W.heap.size
theorem FS.go {w W W' : World} {p1 q1 p2 q2 : Bool} {u1 v1 u2 v2 : Value} (h : FS w W p1 q1 p2 q2 u1 v1 u2 v2) (hb : Below W.heap.size W W') : FS w W' p1 q1 p2 q2 u1 v1 u2 v2 := by
 have hs := h.sz
 have c : ∀ (k o : Nat) (u : Value), k < w.heap.size + 4 → W.cell? ⟨k, o, none⟩ = some u → W'.cell? ⟨k, o, none⟩ = some u := fun k o u hk hu => (hb.cell (p := ⟨k, o, none⟩) (show k < _ by omega)).trans hu
 have f : ∀ (k o : Nat), k < w.heap.size + 4 → W.frozen? ⟨k, o, none⟩ = false → W'.frozen? ⟨k, o, none⟩ = false := fun k o hk hu => (hb.frozen (p := ⟨k, o, none⟩) (show k < _ by omega)).trans hu
 exact ⟨c _ _ _ (by omega) h.a0, c _ _ _ (by omega) h.a1, c _ _ _ (by omega) h.a2, c _ _ _ (by omega) h.a3, c _ _ _ (by omega) h.b0, c _ _ _ (by omega) h.b1, c _ _ _ (by omega) h.b2, c _ _ _ (by omega) h.b3, c _ _ _ (by omega) h.x0, c _ _ _ (by omega) h.x1, c _ _ _ (by omega) h.x2, c _ _ _ (by omega) h.x3, c _ _ _ (by omega) h.e0, f _ _ (by omega) h.fb0, f _ _ (by omega) h.fb1, f _ _ (by omega) h.fb2, f _ _ (by omega) h.fb3, f _ _ (by omega) h.fx0, f _ _ (by omega) h.fx1, f _ _ (by omega) h.fx2, f _ _ (by omega) h.fx3, f _ _ (by omega) h.fe0, h.bl.trans (hb.mono h.bl.size), by have := hb.size; omega⟩
theorem FS.start (w : World) (p1 q1 p2 q2 : Bool) (u1 v1 u2 v2 : Value) : FS w (((((w).alloc (.cells #[.bool p1, u1, .bool q1, v1] 31)).alloc (.cells #[.bool p2, u2, .bool q2, v2] 31)).alloc (.cells #[.bool false, .slice none 0 0, .bool false, .slice none 0 0] 31)).alloc (.cells #[.int .i64 0] 34)) p1 q1 p2 q2 u1 v1 u2 v2 := ⟨by simp [go_sem], by simp [go_sem], by simp [go_sem], by simp [go_sem], by simp [go_sem], by simp [go_sem], by simp [go_sem], by simp [go_sem], by simp [go_sem], by simp [go_sem], by simp [go_sem], by simp [go_sem], by simp [go_sem], by simp [go_sem], by simp [go_sem], by simp [go_sem], by simp [go_sem], by simp [go_sem], by simp [go_sem], by simp [go_sem], by simp [go_sem], by simp [go_sem], by exact bel, by simp⟩
theorem FS.drew {w W : World} {p1 q1 p2 q2 : Bool} {u1 v1 u2 v2 : Value} (h : FS w W p1 q1 p2 q2 u1 v1 u2 v2) : FS w W.drew p1 q1 p2 q2 u1 v1 u2 v2 := ⟨h.a0, h.a1, h.a2, h.a3, h.b0, h.b1, h.b2, h.b3, h.x0, h.x1, h.x2, h.x3, h.e0, h.fb0, h.fb1, h.fb2, h.fb3, h.fx0, h.fx1, h.fx2, h.fx3, h.fe0, h.bl.drew, h.sz⟩
set_option maxHeartbeats 4000000 in
theorem qSub_any {M : List Nat} {va vb : Value} {a b : Rt} {w : World} (hM : Bel M w) (ha : QW w M va a) (hb : QW w M vb b) (oa : a.ok) (ob : b.ok) (hf : Fine a b) :
 Calls Tryz.prog 65 #[va, vb] w (QR w M (subQ a b)) := by
 refine wid ?_
 rw [subQ_neg]
 obtain ⟨p1, q1, A1, n1, c1, B1, m1, d1, rfl, qa⟩ := QC.of ha
 obtain ⟨p2, q2, A2, n2, c2, B2, m2, d2, rfl, qb⟩ := QC.of hb
 obtain ⟨W1, hW1⟩ : ∃ W1 : World, ((((w).alloc (.cells #[.bool p1, .slice A1 n1 c1, .bool q1, .slice B1 m1 d1] 31)).alloc (.cells #[.bool p2, .slice A2 n2 c2, .bool q2, .slice B2 m2 d2] 31)).alloc (.cells #[.bool false, .slice none 0 0, .bool false, .slice none 0 0] 31)).alloc (.cells #[.int .i64 0] 34) = W1 := ⟨_, rfl⟩
 have F1 : FS w W1 p1 q1 p2 q2 (.slice A1 n1 c1) (.slice B1 m1 d1) (.slice A2 n2 c2) (.slice B2 m2 d2) := by rw [← hW1]; exact FS.start w _ _ _ _ _ _ _ _
 obtain ⟨MM, hMM⟩ : ∃ MM, (w.heap.size + 1) :: (w.heap.size + 1 + 1) :: (w.heap.size + 1 + 1 + 1) :: M = MM := ⟨_, rfl⟩
 have ha2 : QC W1 MM a p1 q1 A1 n1 c1 B1 m1 d1 := by rw [← hMM]; exact (((qa.more (b := w.heap.size + 1 + 1 + 1) (by omega)).more (b := w.heap.size + 1 + 1) (by omega)).more (b := w.heap.size + 1) (by omega)).go F1.bl
 have hb2 : QC W1 MM b p2 q2 A2 n2 c2 B2 m2 d2 := by rw [← hMM]; exact (((qb.more (b := w.heap.size + 1 + 1 + 1) (by omega)).more (b := w.heap.size + 1 + 1) (by omega)).more (b := w.heap.size + 1) (by omega)).go F1.bl
 have hM2 : Bel MM W1 := by rw [← hMM]; exact (((hM.le F1.bl.size).cons (by have := F1.sz; omega)).cons (by have := F1.sz; omega)).cons (by have := F1.sz; omega)
 have SV := Sl.rats hM2 ha2 hb2
 have X := Hd3 ha2 hb2 hM2
 have HSV := Hd SV
 have HO := Hd3 oa ob hf
 have HMM := Hd hMM
 have HL := Hd (neg_len (z := b.num) (n := n2) qb.num.sl.dlen)
 have hp2 := qb.num.neg
 have F := Hd F1
 have lay_q := F1; obtain ⟨ea0, ea1, ea2, ea3, eb0, eb1, eb2, eb3, ex0, ex1, ex2, ex3, ee0, efb0, efb1, efb2, efb3, efx0, efx1, efx2, efx3, efe0, -, -⟩ := lay_q
 clear ha hb qa qb ha2 hb2 hM hM2 SV oa ob hf hMM
 obtain ⟨P, hP⟩ : ∃ P, zneg (-b.num) = P := ⟨_, rfl⟩
 have HP := Hd hP
 have hPv : P = (!p2 && decide (0 < n2)) := by rw [← hP, HL.out, hp2]
 clear hP hp2
 cases p2 <;> by_cases hn2 : 0 < n2
 all_goals (
 obtain ⟨P', hP'⟩ : ∃ P', P' = P := ⟨_, rfl⟩
 have HPP := Hd hP'
 clear hP'
 simp only [hn2, decide_true, decide_false, Bool.not_true, Bool.not_false, Bool.and_true, Bool.and_false] at hPv
 subst hPv
 refine entd Tryz.func65 rfl Tryz.ntmps65 ?_
 gi_wp2_with (first
  | (refine ⟨trivial, ?_⟩; gi_at_call 63; have g := G2.out; clear g
     have H2 := G2.out.1
     have F3 : FS w (w2.setCell ⟨w.heap.size + 1, 0, none⟩ (.bool P')) p1 q1 P' q2 (.slice A1 n1 c1) (.slice B1 m1 d1) (.slice A2 n2 c2) (.slice B2 m2 d2) := by
      constructor
      all_goals first
       | (simp [go_sem, ua0, ua1, ua2, ua3, ub0, ub1, ub2, ub3, ux0, ux1, ux2, ux3, ue0, ufx0, ufx1, ufx2, ufx3, ufe0, ufb0, ufb1, ufb2, ufb3]; done)
       | exact H2.bl.setCell (p := ⟨w.heap.size + 1, 0, none⟩) (by simp) _
       | (simp; exact H2.sz)
     have kp : Keeps MM w2 (w2.setCell ⟨w.heap.size + 1, 0, none⟩ (.bool P')) := (Keeps.refl _ _).setCell (p := ⟨w.heap.size + 1, 0, none⟩) (.inl (by rw [← HMM.out]; simp)) _; have za := X.out.1.go G2.out.2; have zb := X.out.2.1.go G2.out.2
     have za3 : QC (w2.setCell ⟨w.heap.size + 1, 0, none⟩ (.bool P')) MM a p1 q1 A1 n1 c1 B1 m1 d1 := ⟨⟨za.num.neg, za.num.sl.keep kp⟩, ⟨za.den.neg, za.den.sl.keep kp⟩⟩
     have zb3 : QC (w2.setCell ⟨w.heap.size + 1, 0, none⟩ (.bool P')) MM (negR b) P' q2 A2 n2 c2 B2 m2 d2 := ⟨⟨HP.out.trans HPP.out.symm, by show Sl Int _ MM A2 n2 c2 (ints (zmag (-b.num))); rw [zmag_neg]; exact zb.num.sl.keep kp⟩, ⟨zb.den.neg, zb.den.sl.keep kp⟩⟩
     rw [HPP.out] at F3 za3 zb3; refine Cn (qAdd_any (M := MM) (a := a) (b := negR b) ((X.out.2.2.le G2.out.2.size).le (by simp)) za3.qw zb3.qw HO.out.1 (neg_ok HO.out.2.1) HO.out.2.2.neg) ?_; rintro e w7 ⟨u7, rfl, hq7, hb7⟩; obtain ⟨p7, q7, A7, n7, c7, B7, m7, d7, rfl, hq7'⟩ := QC.of hq7; have F7 := F3.go hb7; have lay_q := F7; obtain ⟨ta0, ta1, ta2, ta3, tb0, tb1, tb2, tb3, tx0, tx1, tx2, tx3, te0, tfb0, tfb1, tfb2, tfb3, tfx0, tfx1, tfx2, tfx3, tfe0, -, -⟩ := lay_q; have G7 := Hd2 F7 hq7'
     clear F7 hq7 hq7' hb7 F3 za zb za3 zb3 kp H2)
  | (refine Cl 43 (valid_any (M := MM) _ 2 2 [a, b] _ (X.out.2.2.le (by simp)) HSV.out (by simp [HO.out.1, HO.out.2.1])) ?_
     rintro e w2 ⟨rfl, hb2⟩; have hb3 : Below W1.heap.size W1 w2 := ((Below.refl W1.heap.size W1).alloc (Nat.le_refl _) _).trans (hb2.mono (by simp)); have F2 := F.out.go hb3; have lay_q := F2; obtain ⟨ua0, ua1, ua2, ua3, ub0, ub1, ub2, ub3, ux0, ux1, ux2, ux3, ue0, ufb0, ufb1, ufb2, ufb3, ufx0, ufx1, ufx2, ufx3, ufe0, -, -⟩ := lay_q; have G2 := Hd2 F2 hb3
     clear hb2 hb3 F2)
  | fail)
 obtain ⟨wF, hwF, t0, t1, t2, t3, t5, hQ, bF⟩ := fin5 (M := M) (MM := MM) tx0 tx1 tx2 tx3 te0 G7.out.2.qw (fun k hk => by rw [← HMM.out]; simp [hk]) (by rw [← HMM.out]; simp) (by rw [← HMM.out]; simp) (by omega) G7.out.1.bl (by omega) (by omega)
 refine leavesIn_cons (f := 42) (args := #[.pointer (some ⟨w.heap.size + 1 + 1 + 1, 0, none⟩)]) (by simp) (by simp) (by simp [go_sem]) (fun _ _ => trivial) ?_
 rw [hwF]
 refine (caughtQ_idle ⟨w.heap.size + 1 + 1 + 1, 0, none⟩ _).mono ?_
 rintro e u' w'' ⟨rfl, rfl, rfl⟩
 refine ⟨.tuple #[.agg #[.bool p7, .slice A7 n7 c7, .bool q7, .slice B7 m7 d7], .int .i64 0], ?_, _, rfl, hQ, bF⟩
 simp [results, Tryz.results65, go_sem, t0, t1, t2, t3, t5])
end
end Go.Proofs.YtboapndkopabiaaGreat
