/- Lemmas and walks (Ref9 Ref10 Ref11). No statement is proved here. -/
import Derived.Test.YtboapndkopabiaaGreatM20
set_option linter.unusedVariables false
set_option linter.unusedSimpArgs false
namespace Go.Proofs.YtboapndkopabiaaGreat
section
open Go.RowKit Go.Shelf
attribute [local go_sem] Oper.semAt_some
set_option maxHeartbeats 4000000 in
theorem rover_any {M : List Nat} {vn va vb : Value} {n a b : Int} {w : World} (hM : Bel M w) (hn : ZV w M vn n) (ha : ZV w M va a) (hb : ZV w M vb b) (fn : fits n = true) (fa : fits a = true) (fb : fits b = true) (fab : fits (a * b) = true) (h0 : 0 < a * b) :
 Calls Tryz.prog 116 #[vn, .int .i64 0, va, vb] w (QR w M (lowM n (a * b))) := by
 refine wid ?_
 obtain ⟨q1, A1, n1, c1, rfl, z1⟩ := ZC.of hn
 obtain ⟨q2, A2, n2, c2, rfl, z2⟩ := ZC.of ha
 obtain ⟨q3, A3, n3, c3, rfl, z3⟩ := ZC.of hb
 obtain ⟨W1, hW1, F1⟩ := nam (((((Fr.nil w).a w.heap.size [.bool q1, .slice A1 n1 c1] 29).a (w.heap.size + 1) [.bool q2, .slice A2 n2 c2] 29).a (w.heap.size + 1 + 1) [.bool q3, .slice A3 n3 c3] 29).a4 (w.heap.size + 1 + 1 + 1) 31)
 refine op1 F1 ?_; intros
 have hM1 : Bel ((w.heap.size + 1 + 1 + 1) :: M) W1 := (hM.le F1.bl.size).cons (F1.lt (w.heap.size + 1 + 1 + 1) [.bool false, .slice none 0 0, .bool false, .slice none 0 0] (by simp))
 have X := Hd4 (z1.more (b := w.heap.size + 1 + 1 + 1) (by omega)) (z2.more (b := w.heap.size + 1 + 1 + 1) (by omega)) (z3.more (b := w.heap.size + 1 + 1 + 1) (by omega)) hM1
 have HO := Hd5 fn fa fb fab h0
 have F := Hd F1
 clear hn ha hb z1 z2 z3 hM hM1 fn fa fb fab h0 F1
 refine ent Tryz.func116 rfl Tryz.ntmps116 ?_
 gi_wp2_with (first
  | (refine ⟨trivial, ?_⟩; gi_at_call 131; have g' := G3.out; clear g'
     refine Cn (rOf_any (M := (w.heap.size + 1 + 1 + 1) :: M) (n := n) (d := a * b) (X.out.2.2.2.le G3.out.2.2) (X.out.1.go G3.out.1.bl).zv G3.out.2.1.zv HO.out.1 HO.out.2.2.2.1 HO.out.2.2.2.2) ?_; rintro e w9 ⟨u9, rfl, z9, hb9⟩; obtain ⟨p9, q9, A9, n9, c9, B9, m9, d9, rfl, qc9⟩ := QC.of z9; have F9 := G3.out.1.go hb9; refine op1 F9 ?_; intros; have G9 := Hd2 F9 qc9
     clear z9 qc9 hb9 F9)
  | (refine Cl 114 (rMul_any (M := (w.heap.size + 1 + 1 + 1) :: M) (a := a) (b := b) X.out.2.2.2 (X.out.2.1.go F.out.bl).zv (X.out.2.2.1.go F.out.bl).zv HO.out.2.1 HO.out.2.2.1 HO.out.2.2.2.1) ?_
     rintro e w2 ⟨u2, rfl, z2, hb2⟩; obtain ⟨q4, A4, n4, c4, rfl, zc4⟩ := ZC.of z2; obtain ⟨W3, hW3, hbW3, F3⟩ := nam2 (w := w2) ((F.out.go hb2).a w2.heap.size [.bool q4, .slice A4 n4 c4] 29); refine op1 F3 ?_; intros; have G3 := Hd3 F3 (zc4.go hbW3) (Nat.le_trans hb2.size hbW3.size)
     clear z2 zc4 hb2 hbW3 F3)
  | fail)
 have hx := fun i u hu => (G9.out.1.at_ (w.heap.size + 1 + 1 + 1) [.bool false, .slice none 0 0, .bool false, .slice none 0 0] (by simp) i u hu).1
 obtain ⟨wF, hwF, t0, t1, t2, t3, hQ, bF⟩ := fin4 (M := M) (hx 0 _ rfl) (hx 1 _ rfl) (hx 2 _ rfl) (hx 3 _ rfl) (x := lowM n (a * b)) G9.out.2.num.sl G9.out.2.den.sl G9.out.2.num.neg G9.out.2.den.neg G9.out.1.bl (by omega)
 rw [hwF]
 refine ⟨rfl, .tuple #[.agg #[.bool p9, .slice A9 n9 c9, .bool q9, .slice B9 m9 d9], .int .i64 0], ?_, _, rfl, hQ, bF⟩
 simp [results, go_sem, t0, t1, t2, t3]
set_option maxHeartbeats 4000000 in
theorem rqMul_any {M : List Nat} {va vb : Value} {a b : Rt} {w : World} (hM : Bel M w) (ha : QW w M va a) (hb : QW w M vb b) (oa : a.ok) (ob : b.ok) (hf : Fine a b) :
 Calls Tryz.prog 79 #[va, vb] w (QR w M (mulQ a b)) := by
 refine wid ?_
 obtain ⟨p1, q1, A1, n1, c1, B1, m1, d1, rfl, qa⟩ := QC.of ha
 obtain ⟨p2, q2, A2, n2, c2, B2, m2, d2, rfl, qb⟩ := QC.of hb
 obtain ⟨W1, hW1, F1⟩ := nam ((((Fr.nil w).a w.heap.size [.bool p1, .slice A1 n1 c1, .bool q1, .slice B1 m1 d1] 31).a (w.heap.size + 1) [.bool p2, .slice A2 n2 c2, .bool q2, .slice B2 m2 d2] 31).a4 (w.heap.size + 1 + 1) 31)
 refine op1 F1 ?_; intros
 have hM1 : Bel ((w.heap.size + 1 + 1) :: M) W1 := (hM.le F1.bl.size).cons (F1.lt (w.heap.size + 1 + 1) [.bool false, .slice none 0 0, .bool false, .slice none 0 0] (by simp))
 have X := Hd3 (qa.more (b := w.heap.size + 1 + 1) (by omega)) (qb.more (b := w.heap.size + 1 + 1) (by omega)) hM1
 have HO := Hd3 oa ob hf
 have F := Hd F1
 clear ha hb qa qb hM hM1 oa ob hf F1
 refine ent Tryz.func79 rfl Tryz.ntmps79 ?_
 gi_wp2_with (first
  | (refine ⟨trivial, ?_⟩; gi_at_call 116; have g' := G7.out; clear g'
     refine Cn (rover_any (M := (w.heap.size + 1 + 1) :: M) (n := a.num * b.num) (a := a.den) (b := b.den) (X.out.2.2.le G7.out.2.2) G7.out.2.1.zv (X.out.1.go G7.out.1.bl).den.zv (X.out.2.1.go G7.out.1.bl).den.zv HO.out.2.2.nn HO.out.1.fd HO.out.2.1.fd HO.out.2.2.dd (Int.mul_pos HO.out.1.pos HO.out.2.1.pos)) ?_; rintro e w9 ⟨u9, rfl, z9, hb9⟩; obtain ⟨p9, q9, A9, n9, c9, B9, m9, d9, rfl, qc9⟩ := QC.of z9; have F9 := G7.out.1.go hb9; refine op1 F9 ?_; intros; have G9 := Hd2 F9 qc9
     clear z9 qc9 hb9 F9)
  | (refine ⟨trivial, ?_⟩; gi_at_call 114; have g' := G2.out; clear g'
     refine Cn (rMul_any (M := (w.heap.size + 1 + 1) :: M) (a := a.num) (b := b.num) (X.out.2.2.le G2.out.2) (X.out.1.go G2.out.1.bl).num.zv (X.out.2.1.go G2.out.1.bl).num.zv HO.out.1.fn HO.out.2.1.fn HO.out.2.2.nn) ?_; rintro e w6 ⟨u6, rfl, z6, hb6⟩; obtain ⟨q6, A6, n6, c6, rfl, zc6⟩ := ZC.of z6; obtain ⟨W7, hW7, hbW7, F7⟩ := nam2 (w := w6) ((G2.out.1.go hb6).a w6.heap.size [.bool q6, .slice A6 n6 c6] 29); refine op1 F7 ?_; intros; have G7 := Hd3 F7 (zc6.go hbW7) (Nat.le_trans G2.out.2 (Nat.le_trans hb6.size hbW7.size))
     clear z6 zc6 hb6 hbW7 F7)
  | (refine Cl 74 (rvalid_any (M := (w.heap.size + 1 + 1) :: M) (a := a) (b := b) X.out.2.2 (X.out.1.go F.out.bl).qw (X.out.2.1.go F.out.bl).qw HO.out.1 HO.out.2.1) ?_
     rintro e w2 ⟨rfl, hb2⟩; have F2 := F.out.go hb2; refine op1 F2 ?_; intros; have G2 := Hd2 F2 hb2.size
     clear hb2 F2)
  | fail)
 have hx := fun i u hu => (G9.out.1.at_ (w.heap.size + 1 + 1) [.bool false, .slice none 0 0, .bool false, .slice none 0 0] (by simp) i u hu).1
 obtain ⟨wF, hwF, t0, t1, t2, t3, hQ, bF⟩ := fin4 (M := M) (hx 0 _ rfl) (hx 1 _ rfl) (hx 2 _ rfl) (hx 3 _ rfl) (x := mulQ a b) G9.out.2.num.sl G9.out.2.den.sl G9.out.2.num.neg G9.out.2.den.neg G9.out.1.bl (by omega)
 rw [hwF]
 refine ⟨rfl, .tuple #[.agg #[.bool p9, .slice A9 n9 c9, .bool q9, .slice B9 m9 d9], .int .i64 0], ?_, _, rfl, hQ, bF⟩
 simp [results, go_sem, t0, t1, t2, t3]
set_option maxHeartbeats 4000000 in
theorem rqAdd_any {M : List Nat} {va vb : Value} {a b : Rt} {w : World} (hM : Bel M w) (ha : QW w M va a) (hb : QW w M vb b) (oa : a.ok) (ob : b.ok) (hf : Fine a b) :
 Calls Tryz.prog 76 #[va, vb] w (QR w M (addQ a b)) := by
 refine wid ?_
 obtain ⟨p1, q1, A1, n1, c1, B1, m1, d1, rfl, qa⟩ := QC.of ha
 obtain ⟨p2, q2, A2, n2, c2, B2, m2, d2, rfl, qb⟩ := QC.of hb
 obtain ⟨W1, hW1, F1⟩ := nam ((((Fr.nil w).a w.heap.size [.bool p1, .slice A1 n1 c1, .bool q1, .slice B1 m1 d1] 31).a (w.heap.size + 1) [.bool p2, .slice A2 n2 c2, .bool q2, .slice B2 m2 d2] 31).a4 (w.heap.size + 1 + 1) 31)
 refine op1 F1 ?_; intros
 have hM1 : Bel ((w.heap.size + 1 + 1) :: M) W1 := (hM.le F1.bl.size).cons (F1.lt (w.heap.size + 1 + 1) [.bool false, .slice none 0 0, .bool false, .slice none 0 0] (by simp))
 have X := Hd3 (qa.more (b := w.heap.size + 1 + 1) (by omega)) (qb.more (b := w.heap.size + 1 + 1) (by omega)) hM1
 have HO := Hd3 oa ob hf
 have F := Hd F1
 clear ha hb qa qb hM hM1 oa ob hf F1
 refine ent Tryz.func76 rfl Tryz.ntmps76 ?_
 gi_wp2_with (first
  | (refine ⟨trivial, ?_⟩; gi_at_call 116; have g' := G7.out; clear g'
     refine Cn (rover_any (M := (w.heap.size + 1 + 1) :: M) (n := a.num * b.den + b.num * a.den) (a := a.den) (b := b.den) (X.out.2.2.le G7.out.2.2) G7.out.2.1.zv (X.out.1.go G7.out.1.bl).den.zv (X.out.2.1.go G7.out.1.bl).den.zv HO.out.2.2.ad HO.out.1.fd HO.out.2.1.fd HO.out.2.2.dd (Int.mul_pos HO.out.1.pos HO.out.2.1.pos)) ?_; rintro e w9 ⟨u9, rfl, z9, hb9⟩; obtain ⟨p9, q9, A9, n9, c9, B9, m9, d9, rfl, qc9⟩ := QC.of z9; have F9 := G7.out.1.go hb9; refine op1 F9 ?_; intros; have G9 := Hd2 F9 qc9
     clear z9 qc9 hb9 F9)
  | (refine ⟨trivial, ?_⟩; gi_at_call 115; have g' := G5.out; clear g'
     refine Cn (rAdd_any (M := (w.heap.size + 1 + 1) :: M) (a := a.num * b.den) (b := b.num * a.den) (X.out.2.2.le G5.out.2.2.2) G5.out.2.1.zv G5.out.2.2.1.zv HO.out.2.2.nd HO.out.2.2.dn HO.out.2.2.ad) ?_; rintro e w6 ⟨u6, rfl, z6, hb6⟩; obtain ⟨q6, A6, n6, c6, rfl, zc6⟩ := ZC.of z6; obtain ⟨W7, hW7, hbW7, F7⟩ := nam2 (w := w6) ((G5.out.1.go hb6).a w6.heap.size [.bool q6, .slice A6 n6 c6] 29); refine op1 F7 ?_; intros; have G7 := Hd3 F7 (zc6.go hbW7) (Nat.le_trans G5.out.2.2.2 (Nat.le_trans hb6.size hbW7.size))
     clear z6 zc6 hb6 hbW7 F7)
  | (refine ⟨trivial, ?_⟩; gi_at_call 75; have g' := G2.out; clear g'
     refine Cn (rcross_any (M := (w.heap.size + 1 + 1) :: M) (a := a) (b := b) (X.out.2.2.le G2.out.2) (X.out.1.go G2.out.1.bl).qw (X.out.2.1.go G2.out.1.bl).qw HO.out.1 HO.out.2.1 HO.out.2.2) ?_; rintro e w4 ⟨u4, v4, rfl, z4, z4', hb4⟩; obtain ⟨q3, A3, n3, c3, rfl, zc3⟩ := ZC.of z4; obtain ⟨q4, A4, n4, c4, rfl, zc4⟩ := ZC.of z4'; obtain ⟨W5, hW5, hbW5, F5⟩ := nam2 (w := w4) (((G2.out.1.go hb4).a w4.heap.size [.bool q3, .slice A3 n3 c3] 29).a (w4.heap.size + 1) [.bool q4, .slice A4 n4 c4] 29); refine op1 F5 ?_; intros; have G5 := Hd4 F5 (zc3.go hbW5) (zc4.go hbW5) (Nat.le_trans G2.out.2 (Nat.le_trans hb4.size hbW5.size))
     clear z4 z4' zc3 zc4 hb4 hbW5 F5)
  | (refine Cl 74 (rvalid_any (M := (w.heap.size + 1 + 1) :: M) (a := a) (b := b) X.out.2.2 (X.out.1.go F.out.bl).qw (X.out.2.1.go F.out.bl).qw HO.out.1 HO.out.2.1) ?_
     rintro e w2 ⟨rfl, hb2⟩; have F2 := F.out.go hb2; refine op1 F2 ?_; intros; have G2 := Hd2 F2 hb2.size
     clear hb2 F2)
  | fail)
 have hx := fun i u hu => (G9.out.1.at_ (w.heap.size + 1 + 1) [.bool false, .slice none 0 0, .bool false, .slice none 0 0] (by simp) i u hu).1
 obtain ⟨wF, hwF, t0, t1, t2, t3, hQ, bF⟩ := fin4 (M := M) (hx 0 _ rfl) (hx 1 _ rfl) (hx 2 _ rfl) (hx 3 _ rfl) (x := addQ a b) G9.out.2.num.sl G9.out.2.den.sl G9.out.2.num.neg G9.out.2.den.neg G9.out.1.bl (by omega)
 rw [hwF]
 refine ⟨rfl, .tuple #[.agg #[.bool p9, .slice A9 n9 c9, .bool q9, .slice B9 m9 d9], .int .i64 0], ?_, _, rfl, hQ, bF⟩
 simp [results, go_sem, t0, t1, t2, t3]
set_option maxHeartbeats 4000000 in
theorem rqSub_any {M : List Nat} {va vb : Value} {a b : Rt} {w : World} (hM : Bel M w) (ha : QW w M va a) (hb : QW w M vb b) (oa : a.ok) (ob : b.ok) (hf : Fine a b) :
 Calls Tryz.prog 78 #[va, vb] w (QR w M (subQ a b)) := by
 refine wid ?_
 obtain ⟨p1, q1, A1, n1, c1, B1, m1, d1, rfl, qa⟩ := QC.of ha
 obtain ⟨p2, q2, A2, n2, c2, B2, m2, d2, rfl, qb⟩ := QC.of hb
 obtain ⟨W1, hW1, F1⟩ := nam ((((Fr.nil w).a w.heap.size [.bool p1, .slice A1 n1 c1, .bool q1, .slice B1 m1 d1] 31).a (w.heap.size + 1) [.bool p2, .slice A2 n2 c2, .bool q2, .slice B2 m2 d2] 31).a4 (w.heap.size + 1 + 1) 31)
 refine op1 F1 ?_; intros
 have hM1 : Bel ((w.heap.size + 1 + 1) :: M) W1 := (hM.le F1.bl.size).cons (F1.lt (w.heap.size + 1 + 1) [.bool false, .slice none 0 0, .bool false, .slice none 0 0] (by simp))
 have X := Hd3 (qa.more (b := w.heap.size + 1 + 1) (by omega)) (qb.more (b := w.heap.size + 1 + 1) (by omega)) hM1
 have HO := Hd3 oa ob hf
 have F := Hd F1
 clear ha hb qa qb hM hM1 oa ob hf F1
 refine ent Tryz.func78 rfl Tryz.ntmps78 ?_
 gi_wp2_with (first
  | (refine ⟨trivial, ?_⟩; gi_at_call 116; have g' := G7.out; clear g'
     refine Cn (rover_any (M := (w.heap.size + 1 + 1) :: M) (n := a.num * b.den - b.num * a.den) (a := a.den) (b := b.den) (X.out.2.2.le G7.out.2.2) G7.out.2.1.zv (X.out.1.go G7.out.1.bl).den.zv (X.out.2.1.go G7.out.1.bl).den.zv HO.out.2.2.sb HO.out.1.fd HO.out.2.1.fd HO.out.2.2.dd (Int.mul_pos HO.out.1.pos HO.out.2.1.pos)) ?_; rintro e w9 ⟨u9, rfl, z9, hb9⟩; obtain ⟨p9, q9, A9, n9, c9, B9, m9, d9, rfl, qc9⟩ := QC.of z9; have F9 := G7.out.1.go hb9; refine op1 F9 ?_; intros; have G9 := Hd2 F9 qc9
     clear z9 qc9 hb9 F9)
  | (refine ⟨trivial, ?_⟩; gi_at_call 117; have g' := G5.out; clear g'
     refine Cn (rSub_any (M := (w.heap.size + 1 + 1) :: M) (a := a.num * b.den) (b := b.num * a.den) (X.out.2.2.le G5.out.2.2.2) G5.out.2.1.zv G5.out.2.2.1.zv HO.out.2.2.nd HO.out.2.2.dn HO.out.2.2.sb) ?_; rintro e w6 ⟨u6, rfl, z6, hb6⟩; obtain ⟨q6, A6, n6, c6, rfl, zc6⟩ := ZC.of z6; obtain ⟨W7, hW7, hbW7, F7⟩ := nam2 (w := w6) ((G5.out.1.go hb6).a w6.heap.size [.bool q6, .slice A6 n6 c6] 29); refine op1 F7 ?_; intros; have G7 := Hd3 F7 (zc6.go hbW7) (Nat.le_trans G5.out.2.2.2 (Nat.le_trans hb6.size hbW7.size))
     clear z6 zc6 hb6 hbW7 F7)
  | (refine ⟨trivial, ?_⟩; gi_at_call 75; have g' := G2.out; clear g'
     refine Cn (rcross_any (M := (w.heap.size + 1 + 1) :: M) (a := a) (b := b) (X.out.2.2.le G2.out.2) (X.out.1.go G2.out.1.bl).qw (X.out.2.1.go G2.out.1.bl).qw HO.out.1 HO.out.2.1 HO.out.2.2) ?_; rintro e w4 ⟨u4, v4, rfl, z4, z4', hb4⟩; obtain ⟨q3, A3, n3, c3, rfl, zc3⟩ := ZC.of z4; obtain ⟨q4, A4, n4, c4, rfl, zc4⟩ := ZC.of z4'; obtain ⟨W5, hW5, hbW5, F5⟩ := nam2 (w := w4) (((G2.out.1.go hb4).a w4.heap.size [.bool q3, .slice A3 n3 c3] 29).a (w4.heap.size + 1) [.bool q4, .slice A4 n4 c4] 29); refine op1 F5 ?_; intros; have G5 := Hd4 F5 (zc3.go hbW5) (zc4.go hbW5) (Nat.le_trans G2.out.2 (Nat.le_trans hb4.size hbW5.size))
     clear z4 z4' zc3 zc4 hb4 hbW5 F5)
  | (refine Cl 74 (rvalid_any (M := (w.heap.size + 1 + 1) :: M) (a := a) (b := b) X.out.2.2 (X.out.1.go F.out.bl).qw (X.out.2.1.go F.out.bl).qw HO.out.1 HO.out.2.1) ?_
     rintro e w2 ⟨rfl, hb2⟩; have F2 := F.out.go hb2; refine op1 F2 ?_; intros; have G2 := Hd2 F2 hb2.size
     clear hb2 F2)
  | fail)
 have hx := fun i u hu => (G9.out.1.at_ (w.heap.size + 1 + 1) [.bool false, .slice none 0 0, .bool false, .slice none 0 0] (by simp) i u hu).1
 obtain ⟨wF, hwF, t0, t1, t2, t3, hQ, bF⟩ := fin4 (M := M) (hx 0 _ rfl) (hx 1 _ rfl) (hx 2 _ rfl) (hx 3 _ rfl) (x := subQ a b) G9.out.2.num.sl G9.out.2.den.sl G9.out.2.num.neg G9.out.2.den.neg G9.out.1.bl (by omega)
 rw [hwF]
 refine ⟨rfl, .tuple #[.agg #[.bool p9, .slice A9 n9 c9, .bool q9, .slice B9 m9 d9], .int .i64 0], ?_, _, rfl, hQ, bF⟩
 simp [results, go_sem, t0, t1, t2, t3]
end
section
open Go.RowKit Go.Shelf
attribute [local go_sem] Oper.semAt_some
theorem take_same {l m : List Int} {k : Nat} {x : Int} (h : l.take k = m.take k) (h1 : l[k]? = some x) (h2 : m[k]? = some x) : l.take (k + 1) = m.take (k + 1) := by rw [take_snoc h1, take_snoc h2, h]
set_option maxHeartbeats 2000000 in
theorem sameB_any {M N : List Nat} (q1 q2 : Bool) (A B : Option Addr) (n c m d : Nat) (l1 l2 : List Int) (w : World) (hx : Sl Int w M A n c l1) (hy : Sl Int w N B m d l2) :
 Calls Tryz.prog 53 #[.agg #[.bool q1, .slice A n c], .agg #[.bool q2, .slice B m d]] w fun e w' => e = .returned (.bool (decide ((q1, l1) = (q2, l2)))) ∧ Below w.heap.size w w' := by
 refine wid ?_
 have hn := hx.len
 have hm := hy.len
 have hsx := hx.small
 have hsy := hy.small
 obtain ⟨W1, hW1, F1⟩ := nam (((Fr.nil w).a w.heap.size [.bool q1, .slice A n c] 29).a (w.heap.size + 1) [.bool q2, .slice B m d] 29)
 have FO := F1
 refine op1 FO ?_; intros
 have X := Hd2 hx hy
 have F := Hd F1
 clear hx hy F1 FO
 by_cases hq : q1 = q2
 · subst hq
   by_cases hnm : n = m
   · subst hnm
     have HN := Hd2 hn hm; clear hn hm; refine ent Tryz.func53 rfl Tryz.ntmps53 ?_; gi_wp2
     gi_loopw [5] (fun i wr => ∃ k : Nat, k ≤ n ∧ i = .int .i64 k ∧ Hid (l1.take k = l2.take k) ∧ Hid (Fr w wr [(w.heap.size, [.bool q1, .slice A n c]), (w.heap.size + 1, [.bool q1, .slice B n d])])) (fun i _ => n - (intOf i).toNat)
     case atStart => exact ⟨0, Nat.zero_le _, rfl, Hd rfl, F.out⟩
     case round =>
      obtain ⟨k, hk, rfl, ht, hF⟩ := hrel; have hF1 := hF.out; refine op1 hF1 ?_; intros; have hF2 := hF.out.drew; refine op1 hF2 ?_; intros; have kx := hF1.nth 0; have ky := hF1.nth 1
      by_cases hlt : k < n
      · obtain ⟨b1, o1, x, rfl, hc1, -, -, hx1⟩ := (X.out.1.go hF1.bl).intd hlt
        obtain ⟨b2, o2, y, rfl, hc2, -, -, hy1⟩ := (X.out.2.go hF1.bl).intd hlt; have v1 := stays_drew hc1; have v2 := stays_drew hc2; have v3 := stays_drew (kx 1 _ rfl); have v4 := stays_drew (ky 1 _ rfl); have HX := Hd2 hx1 hy1; clear hc1 hc2 hx1 hy1 kx ky
        by_cases hxy : x = y
        · subst hxy
          have ht2 := Hd (take_same ht.out HX.out.1 HX.out.2); have HF2 := Hd hF2; clear hF1 hF2; gi_wp2; refine region_E_np [] 11 (by kernel_rfl) (by kernel_rfl) ?_; refine E_rd 0 ?_; refine E_rd 1 ?_; refine E_rd 2 ?_; refine E_rd 3 ?_; refine E_rd 4 ?_; refine E_rd 5 ?_; refine E_rd 6 ?_; refine E_rd 7 ?_; refine E_rd 8 ?_; refine E_rd 9 ?_; refine E_rd 10 ?_; refine E_nl 0 ?_; refine tail_nil _ ?_; simp only [npost]; gi_wp2; exact ⟨⟨k + 1, by omega, by go_num, ht2, HF2⟩, by simp [intOf]; omega⟩
        · have hne : decide ((q1, l1) = (q1, l2)) = false := decide_eq_false (fun e => by
           have e2 := (Prod.mk.inj e).2; have h1 := HX.out.1; rw [e2, HX.out.2] at h1
           exact hxy (Option.some.inj h1).symm)
          have HNE := Hd hne; have HF2 := Hd hF2.bl; clear hne hF1 hF2; gi_wp2; refine region_E_np [] 11 (by kernel_rfl) (by kernel_rfl) ?_; refine E_rd 0 ?_; refine E_rd 1 ?_; refine E_rd 2 ?_; refine E_rd 3 ?_; refine E_rd 4 ?_; refine E_rd 5 ?_; refine E_rd 6 ?_; refine E_rd 7 ?_; refine E_rd 8 ?_; refine E_rd 9 ?_; refine E_rd 10 ?_; refine E_nl 0 ?_; refine tail_nil _ ?_; simp only [npost]; gi_wp2; go_ret; exact ⟨by first | (rw [HNE.out]; done) | (rw [HNE.out]; rfl), HF2.out⟩
      · obtain rfl : k = n := by omega
        have hall : l1 = l2 := by
         have := ht.out
         rwa [List.take_of_length_le (by rw [HN.out.1]; exact Nat.le_refl _), List.take_of_length_le (by rw [HN.out.2]; exact Nat.le_refl _)] at this
        have HE := Hd (show decide ((q1, l1) = (q1, l2)) = true by rw [hall]; simp); have HB := Hd hF1.bl; clear hF1 hF2 hall kx ky; gi_wp2; go_ret; exact ⟨by first | (rw [HE.out]; done) | (rw [HE.out]; rfl), HB.out⟩
   · have HE := Hd (show decide ((q1, l1) = (q1, l2)) = false from decide_eq_false (fun e => hnm (by rw [← hn, ← hm, (Prod.mk.inj e).2])))
     clear hn hm; refine ent Tryz.func53 rfl Tryz.ntmps53 ?_; gi_wp2; go_ret; exact ⟨by first | (rw [HE.out]; done) | (rw [HE.out]; rfl), F.out.bl⟩
 · have HE := Hd (show decide ((q1, l1) = (q2, l2)) = false from decide_eq_false (fun e => hq (Prod.mk.inj e).1))
   clear hn hm
   cases q1 <;> cases q2
   case neg.false.false => exact absurd rfl hq
   case neg.true.true => exact absurd rfl hq
   all_goals (
   clear hq; refine ent Tryz.func53 rfl Tryz.ntmps53 ?_; gi_wp2; go_ret
   exact ⟨by first | (rw [HE.out]; done) | (rw [HE.out]; rfl), F.out.bl⟩)
set_option maxHeartbeats 2000000 in
theorem sameM_any {M N : List Nat} (q1 q2 : Bool) (A B : Option Addr) (n c m d : Nat) (l1 l2 : List Int) (w : World) (hx : Sl Int w M A n c l1) (hy : Sl Int w N B m d l2) :
 Calls Tryz.prog 140 #[.agg #[.bool q1, .slice A n c], .agg #[.bool q2, .slice B m d]] w fun e w' => e = .returned (.bool (decide ((q1, l1) = (q2, l2)))) ∧ Below w.heap.size w w' := by
 refine wid ?_
 have hn := hx.len
 have hm := hy.len
 have hsx := hx.small
 have hsy := hy.small
 obtain ⟨W1, hW1, F1⟩ := nam (((Fr.nil w).a w.heap.size [.bool q1, .slice A n c] 29).a (w.heap.size + 1) [.bool q2, .slice B m d] 29)
 have FO := F1
 refine op1 FO ?_; intros
 have X := Hd2 hx hy
 have F := Hd F1
 clear hx hy F1 FO
 by_cases hq : q1 = q2
 · subst hq
   by_cases hnm : n = m
   · subst hnm
     have HN := Hd2 hn hm; clear hn hm; refine ent Tryz.func140 rfl Tryz.ntmps140 ?_; gi_wp2
     gi_loopw [5] (fun i wr => ∃ k : Nat, k ≤ n ∧ i = .int .i64 k ∧ Hid (l1.take k = l2.take k) ∧ Hid (Fr w wr [(w.heap.size, [.bool q1, .slice A n c]), (w.heap.size + 1, [.bool q1, .slice B n d])])) (fun i _ => n - (intOf i).toNat)
     case atStart => exact ⟨0, Nat.zero_le _, rfl, Hd rfl, F.out⟩
     case round =>
      obtain ⟨k, hk, rfl, ht, hF⟩ := hrel; have hF1 := hF.out; refine op1 hF1 ?_; intros; have hF2 := hF.out.drew; refine op1 hF2 ?_; intros; have kx := hF1.nth 0; have ky := hF1.nth 1
      by_cases hlt : k < n
      · obtain ⟨b1, o1, x, rfl, hc1, -, -, hx1⟩ := (X.out.1.go hF1.bl).intd hlt
        obtain ⟨b2, o2, y, rfl, hc2, -, -, hy1⟩ := (X.out.2.go hF1.bl).intd hlt; have v1 := stays_drew hc1; have v2 := stays_drew hc2; have v3 := stays_drew (kx 1 _ rfl); have v4 := stays_drew (ky 1 _ rfl); have HX := Hd2 hx1 hy1; clear hc1 hc2 hx1 hy1 kx ky
        by_cases hxy : x = y
        · subst hxy
          have ht2 := Hd (take_same ht.out HX.out.1 HX.out.2); have HF2 := Hd hF2; clear hF1 hF2; gi_wp2; refine region_E_np [] 11 (by kernel_rfl) (by kernel_rfl) ?_; refine E_rd 0 ?_; refine E_rd 1 ?_; refine E_rd 2 ?_; refine E_rd 3 ?_; refine E_rd 4 ?_; refine E_rd 5 ?_; refine E_rd 6 ?_; refine E_rd 7 ?_; refine E_rd 8 ?_; refine E_rd 9 ?_; refine E_rd 10 ?_; refine E_nl 0 ?_; refine tail_nil _ ?_; simp only [npost]; gi_wp2; exact ⟨⟨k + 1, by omega, by go_num, ht2, HF2⟩, by simp [intOf]; omega⟩
        · have hne : decide ((q1, l1) = (q1, l2)) = false := decide_eq_false (fun e => by
           have e2 := (Prod.mk.inj e).2; have h1 := HX.out.1; rw [e2, HX.out.2] at h1
           exact hxy (Option.some.inj h1).symm)
          have HNE := Hd hne; have HF2 := Hd hF2.bl; clear hne hF1 hF2; gi_wp2; refine region_E_np [] 11 (by kernel_rfl) (by kernel_rfl) ?_; refine E_rd 0 ?_; refine E_rd 1 ?_; refine E_rd 2 ?_; refine E_rd 3 ?_; refine E_rd 4 ?_; refine E_rd 5 ?_; refine E_rd 6 ?_; refine E_rd 7 ?_; refine E_rd 8 ?_; refine E_rd 9 ?_; refine E_rd 10 ?_; refine E_nl 0 ?_; refine tail_nil _ ?_; simp only [npost]; gi_wp2; go_ret; exact ⟨by first | (rw [HNE.out]; done) | (rw [HNE.out]; rfl), HF2.out⟩
      · obtain rfl : k = n := by omega
        have hall : l1 = l2 := by
         have := ht.out
         rwa [List.take_of_length_le (by rw [HN.out.1]; exact Nat.le_refl _), List.take_of_length_le (by rw [HN.out.2]; exact Nat.le_refl _)] at this
        have HE := Hd (show decide ((q1, l1) = (q1, l2)) = true by rw [hall]; simp); have HB := Hd hF1.bl; clear hF1 hF2 hall kx ky; gi_wp2; go_ret; exact ⟨by first | (rw [HE.out]; done) | (rw [HE.out]; rfl), HB.out⟩
   · have HE := Hd (show decide ((q1, l1) = (q1, l2)) = false from decide_eq_false (fun e => hnm (by rw [← hn, ← hm, (Prod.mk.inj e).2])))
     clear hn hm; refine ent Tryz.func140 rfl Tryz.ntmps140 ?_; gi_wp2; go_ret; exact ⟨by first | (rw [HE.out]; done) | (rw [HE.out]; rfl), F.out.bl⟩
 · have HE := Hd (show decide ((q1, l1) = (q2, l2)) = false from decide_eq_false (fun e => hq (Prod.mk.inj e).1))
   clear hn hm
   cases q1 <;> cases q2
   case neg.false.false => exact absurd rfl hq
   case neg.true.true => exact absurd rfl hq
   all_goals (
   clear hq; refine ent Tryz.func140 rfl Tryz.ntmps140 ?_; gi_wp2; go_ret
   exact ⟨by first | (rw [HE.out]; done) | (rw [HE.out]; rfl), F.out.bl⟩)
end
section
open Go.RowKit Go.Shelf
attribute [local go_sem] Oper.semAt_some
set_option maxHeartbeats 2000000 in
theorem sameQ_any {M N : List Nat} {va vb : Value} {x y : RatR} {w : World} (ha : RV w M va x) (hb : RV w N vb y) :
 Calls Tryz.prog 25 #[va, vb] w fun e w' => e = .returned (.bool (decide (x = y))) ∧ Below w.heap.size w w' := by
 refine wid ?_
 obtain ⟨A1, n1, c1, B1, m1, d1, rfl, a1, a2⟩ := ha
 obtain ⟨A2, n2, c2, B2, m2, d2, rfl, b1, b2⟩ := hb
 obtain ⟨⟨p1, l1⟩, ⟨q1, k1⟩⟩ := x
 obtain ⟨⟨p2, l2⟩, ⟨q2, k2⟩⟩ := y
 simp only at a1 a2 b1 b2 ⊢
 obtain ⟨W1, hW1, F1⟩ := nam (((Fr.nil w).a w.heap.size [.bool p1, .slice A1 n1 c1, .bool q1, .slice B1 m1 d1] 31).a (w.heap.size + 1) [.bool p2, .slice A2 n2 c2, .bool q2, .slice B2 m2 d2] 31)
 refine op1 F1 ?_; intros
 have X := Hd4 (a1.go F1.bl) (a2.go F1.bl) (b1.go F1.bl) (b2.go F1.bl)
 have F := Hd F1
 clear a1 a2 b1 b2 F1
 by_cases h1 : (p1, l1) = (p2, l2)
 · have H1 := Hd (decide_eq_true h1)
   have hE : decide (((p1, l1), (q1, k1)) = ((p2, l2), (q2, k2))) = decide ((q1, k1) = (q2, k2)) := by rw [h1]; simp
   obtain ⟨V, hV⟩ : ∃ V, decide (((p1, l1), (q1, k1)) = ((p2, l2), (q2, k2))) = V := ⟨_, rfl⟩
   rw [hV]; have HE := Hd (hE.symm.trans hV); clear h1 hE hV; refine ent Tryz.func25 rfl Tryz.ntmps25 ?_
   gi_wp2_with (first
    | (refine ⟨trivial, ?_⟩; gi_at_call 53; have g' := G2.out; clear g'
       refine Cn (sameB_any q1 q2 B1 B2 m1 d1 m2 d2 k1 k2 _ (X.out.2.1.go G2.out.2) (X.out.2.2.2.go G2.out.2)) ?_; rintro e w3 ⟨rfl, hb3⟩; rw [HE.out]; have G3 := Hd (G2.out.1.go hb3)
       clear hb3)
    | (refine Cl 53 (sameB_any p1 p2 A1 A2 n1 c1 n2 c2 l1 l2 _ X.out.1 X.out.2.2.1) ?_
       rintro e w2 ⟨rfl, hb2⟩; rw [H1.out]; have F2 := F.out.go hb2; refine op1 F2 ?_; intros; have G2 := Hd2 F2 hb2
       clear hb2 F2)
    | fail)
   go_ret; exact ⟨rfl, G3.out.bl⟩
 · have H1 := Hd (decide_eq_false h1)
   have HE := Hd (show decide (((p1, l1), (q1, k1)) = ((p2, l2), (q2, k2))) = false from decide_eq_false (fun e => h1 (Prod.mk.inj e).1)); clear h1; refine ent Tryz.func25 rfl Tryz.ntmps25 ?_
   gi_wp2_with (first
    | (refine Cl 53 (sameB_any p1 p2 A1 A2 n1 c1 n2 c2 l1 l2 _ X.out.1 X.out.2.2.1) ?_
       rintro e w2 ⟨rfl, hb2⟩; rw [H1.out]; have G2 := Hd (F.out.go hb2)
       clear hb2)
    | (refine ⟨trivial, ?_⟩))
   go_ret; exact ⟨by rw [HE.out]; rfl, G2.out.bl⟩
set_option maxHeartbeats 2000000 in
theorem equalQ_any {M N : List Nat} {va vb : Value} {x y : RatR} {w : World} (ha : RV w M va x) (hb : RV w N vb y) :
 Calls Tryz.prog 129 #[va, vb] w fun e w' => e = .returned (.bool (decide (x = y))) ∧ Below w.heap.size w w' := by
 refine wid ?_
 obtain ⟨A1, n1, c1, B1, m1, d1, rfl, a1, a2⟩ := ha
 obtain ⟨A2, n2, c2, B2, m2, d2, rfl, b1, b2⟩ := hb
 obtain ⟨⟨p1, l1⟩, ⟨q1, k1⟩⟩ := x
 obtain ⟨⟨p2, l2⟩, ⟨q2, k2⟩⟩ := y
 simp only at a1 a2 b1 b2 ⊢
 obtain ⟨W1, hW1, F1⟩ := nam (((Fr.nil w).a w.heap.size [.bool p1, .slice A1 n1 c1, .bool q1, .slice B1 m1 d1] 31).a (w.heap.size + 1) [.bool p2, .slice A2 n2 c2, .bool q2, .slice B2 m2 d2] 31)
 refine op1 F1 ?_; intros
 have X := Hd4 (a1.go F1.bl) (a2.go F1.bl) (b1.go F1.bl) (b2.go F1.bl)
 have F := Hd F1
 clear a1 a2 b1 b2 F1
 by_cases h1 : (p1, l1) = (p2, l2)
 · have H1 := Hd (decide_eq_true h1)
   have hE : decide (((p1, l1), (q1, k1)) = ((p2, l2), (q2, k2))) = decide ((q1, k1) = (q2, k2)) := by rw [h1]; simp
   obtain ⟨V, hV⟩ : ∃ V, decide (((p1, l1), (q1, k1)) = ((p2, l2), (q2, k2))) = V := ⟨_, rfl⟩
   rw [hV]; have HE := Hd (hE.symm.trans hV); clear h1 hE hV; refine ent Tryz.func129 rfl Tryz.ntmps129 ?_
   gi_wp2_with (first
    | (refine ⟨trivial, ?_⟩; gi_at_call 140; have g' := G2.out; clear g'
       refine Cn (sameM_any q1 q2 B1 B2 m1 d1 m2 d2 k1 k2 _ (X.out.2.1.go G2.out.2) (X.out.2.2.2.go G2.out.2)) ?_; rintro e w3 ⟨rfl, hb3⟩; rw [HE.out]; have G3 := Hd (G2.out.1.go hb3)
       clear hb3)
    | (refine Cl 140 (sameM_any p1 p2 A1 A2 n1 c1 n2 c2 l1 l2 _ X.out.1 X.out.2.2.1) ?_
       rintro e w2 ⟨rfl, hb2⟩; rw [H1.out]; have F2 := F.out.go hb2; refine op1 F2 ?_; intros; have G2 := Hd2 F2 hb2
       clear hb2 F2)
    | fail)
   go_ret; exact ⟨rfl, G3.out.bl⟩
 · have H1 := Hd (decide_eq_false h1)
   have HE := Hd (show decide (((p1, l1), (q1, k1)) = ((p2, l2), (q2, k2))) = false from decide_eq_false (fun e => h1 (Prod.mk.inj e).1)); clear h1; refine ent Tryz.func129 rfl Tryz.ntmps129 ?_
   gi_wp2_with (first
    | (refine Cl 140 (sameM_any p1 p2 A1 A2 n1 c1 n2 c2 l1 l2 _ X.out.1 X.out.2.2.1) ?_
       rintro e w2 ⟨rfl, hb2⟩; rw [H1.out]; have G2 := Hd (F.out.go hb2)
       clear hb2)
    | (refine ⟨trivial, ?_⟩))
   go_ret; exact ⟨by rw [HE.out]; rfl, G2.out.bl⟩
set_option maxRecDepth 20000 in
set_option maxHeartbeats 2000000 in
theorem sameG_any {M N : List Nat} {va vb : Value} {x y : RngR} {w : World} (ha : GV w M va x) (hb : GV w N vb y) :
 Calls Tryz.prog 13 #[va, vb] w fun e w' => e = .returned (.bool (decide (x = y))) ∧ Below w.heap.size w w' := by
 refine wid ?_
 obtain ⟨A1, n1, c1, B1, m1, d1, E1, i1, e1, H1, j1, f1, rfl, a1, a2, a3, a4⟩ := ha
 obtain ⟨A2, n2, c2, B2, m2, d2, E2, i2, e2, H2, j2, f2, rfl, b1, b2, b3, b4⟩ := hb
 obtain ⟨⟨⟨p1, l1⟩, ⟨q1, k1⟩⟩, ⟨⟨r1, s1⟩, ⟨t1, u1⟩⟩⟩ := x
 obtain ⟨⟨⟨p2, l2⟩, ⟨q2, k2⟩⟩, ⟨⟨r2, s2⟩, ⟨t2, u2⟩⟩⟩ := y
 simp only at a1 a2 a3 a4 b1 b2 b3 b4 ⊢
 obtain ⟨W1, hW1, F1⟩ := nam (((Fr.nil w).a w.heap.size [.bool p1, .slice A1 n1 c1, .bool q1, .slice B1 m1 d1, .bool r1, .slice E1 i1 e1, .bool t1, .slice H1 j1 f1] 33).a (w.heap.size + 1) [.bool p2, .slice A2 n2 c2, .bool q2, .slice B2 m2 d2, .bool r2, .slice E2 i2 e2, .bool t2, .slice H2 j2 f2] 33)
 refine op1 F1 ?_; intros
 have X := Hd4 (show RV W1 M (.agg #[.bool p1, .slice A1 n1 c1, .bool q1, .slice B1 m1 d1]) ((p1, l1), (q1, k1)) from ⟨_, _, _, _, _, _, rfl, a1.go F1.bl, a2.go F1.bl⟩) (show RV W1 M (.agg #[.bool r1, .slice E1 i1 e1, .bool t1, .slice H1 j1 f1]) ((r1, s1), (t1, u1)) from ⟨_, _, _, _, _, _, rfl, a3.go F1.bl, a4.go F1.bl⟩) (show RV W1 N (.agg #[.bool p2, .slice A2 n2 c2, .bool q2, .slice B2 m2 d2]) ((p2, l2), (q2, k2)) from ⟨_, _, _, _, _, _, rfl, b1.go F1.bl, b2.go F1.bl⟩) (show RV W1 N (.agg #[.bool r2, .slice E2 i2 e2, .bool t2, .slice H2 j2 f2]) ((r2, s2), (t2, u2)) from ⟨_, _, _, _, _, _, rfl, b3.go F1.bl, b4.go F1.bl⟩)
 have F := Hd F1
 clear a1 a2 a3 a4 b1 b2 b3 b4 F1
 by_cases h1 : ((p1, l1), (q1, k1)) = ((p2, l2), (q2, k2))
 · have HH := Hd (decide_eq_true h1)
   have hE : decide ((((p1, l1), (q1, k1)), ((r1, s1), (t1, u1))) = (((p2, l2), (q2, k2)), ((r2, s2), (t2, u2)))) = decide (((r1, s1), (t1, u1)) = ((r2, s2), (t2, u2))) := by rw [h1]; simp
   obtain ⟨V, hV⟩ : ∃ V, decide ((((p1, l1), (q1, k1)), ((r1, s1), (t1, u1))) = (((p2, l2), (q2, k2)), ((r2, s2), (t2, u2)))) = V := ⟨_, rfl⟩
   rw [hV]; have HE := Hd (hE.symm.trans hV); clear h1 hE hV; refine ent Tryz.func13 rfl Tryz.ntmps13 ?_
   gi_wp2_with (first
    | (refine ⟨trivial, ?_⟩; gi_at_call 25; have g' := G2.out; clear g'
       refine Cn (sameQ_any (X.out.2.1.go G2.out.2) (X.out.2.2.2.go G2.out.2)) ?_; rintro e w3 ⟨rfl, hb3⟩; rw [HE.out]; have G3 := Hd (G2.out.1.go hb3)
       clear hb3)
    | (refine Cl 25 (sameQ_any X.out.1 X.out.2.2.1) ?_
       rintro e w2 ⟨rfl, hb2⟩; rw [HH.out]; have F2 := F.out.go hb2; refine op1 F2 ?_; intros; have G2 := Hd2 F2 hb2
       clear hb2 F2)
    | fail)
   go_ret; exact ⟨rfl, G3.out.bl⟩
 · have HH := Hd (decide_eq_false h1)
   have HE := Hd (show decide ((((p1, l1), (q1, k1)), ((r1, s1), (t1, u1))) = (((p2, l2), (q2, k2)), ((r2, s2), (t2, u2)))) = false from decide_eq_false (fun e => h1 (Prod.mk.inj e).1)); clear h1; refine ent Tryz.func13 rfl Tryz.ntmps13 ?_
   gi_wp2_with (first
    | (refine Cl 25 (sameQ_any X.out.1 X.out.2.2.1) ?_
       rintro e w2 ⟨rfl, hb2⟩; rw [HH.out]; have G2 := Hd (F.out.go hb2)
       clear hb2)
    | (refine ⟨trivial, ?_⟩))
   go_ret; exact ⟨by rw [HE.out]; rfl, G2.out.bl⟩
def fewB (l : List Int) : Bool := decide (l.length ≤ 3) || (decide (2048 < l.length) && decide (l.length ≤ 2052))
def shortQ (x : RatR) : Bool := fewB x.1.2 && fewB x.2.2
set_option maxRecDepth 20000 in
set_option maxHeartbeats 1000000 in
theorem fewB_any {M : List Nat} (q : Bool) (A : Option Addr) (n c : Nat) (l : List Int) (w : World) (hx : Sl Int w M A n c l) :
 Calls Tryz.prog 82 #[.agg #[.bool q, .slice A n c], .int .i64 3] w fun e w' => e = .returned (.bool (fewB l)) ∧ Below w.heap.size w w' := by
 refine wid ?_
 have hs := hx.small
 have hE : fewB l = (decide (n ≤ 3) || (decide (2048 < n) && decide (n ≤ 2052))) := by unfold fewB; rw [hx.len]
 have HE := Hd hE
 clear hx hE
 by_cases h1 : n ≤ 3
 · have H1 := Hd (show fewB l = true by rw [HE.out, decide_eq_true h1]; rfl)
   refine ent Tryz.func82 rfl Tryz.ntmps82 ?_; gi_wp2
   all_goals first
    | (go_ret; exact ⟨by first | (rw [H1.out]; done) | (rw [H1.out]; rfl), by exact bel⟩)
    | (exfalso; rename_i h _ _; exact absurd h (by simp [undef]))
    | (exfalso; simp_all [undef]; done)
    | trace_state
 · by_cases h2 : 2048 < n
   · by_cases h3 : n ≤ 2052
     · have H1 := Hd (show fewB l = true by rw [HE.out, decide_eq_true h2, decide_eq_true h3]; simp)
       refine ent Tryz.func82 rfl Tryz.ntmps82 ?_; gi_wp2; go_ret; exact ⟨by first | (rw [H1.out]; done) | (rw [H1.out]; rfl) | (rw [H1.out]; simp; done) | (rw [H1.out]; simp; omega), by exact bel⟩
     · have H1 := Hd (show fewB l = false by rw [HE.out, decide_eq_false h1, decide_eq_false h3]; simp)
       refine ent Tryz.func82 rfl Tryz.ntmps82 ?_; gi_wp2; go_ret; exact ⟨by first | (rw [H1.out]; done) | (rw [H1.out]; rfl) | (rw [H1.out]; simp; done) | (rw [H1.out]; simp; omega), by exact bel⟩
   · have H1 := Hd (show fewB l = false by rw [HE.out, decide_eq_false h1, decide_eq_false h2]; simp)
     refine ent Tryz.func82 rfl Tryz.ntmps82 ?_; gi_wp2; go_ret; exact ⟨by first | (rw [H1.out]; done) | (rw [H1.out]; rfl) | (rw [H1.out]; simp; done) | (rw [H1.out]; simp; omega), by exact bel⟩
set_option maxHeartbeats 1000000 in
theorem fewQ_any {M : List Nat} {v : Value} {x : RatR} {w : World} (hx : RV w M v x) :
 Calls Tryz.prog 38 #[v, .int .i64 3] w fun e w' => e = .returned (.bool (shortQ x)) ∧ Below w.heap.size w w' := by
 refine wid ?_
 obtain ⟨A, n, c, B, m, d, rfl, a1, a2⟩ := hx
 obtain ⟨⟨p, l⟩, ⟨q, k⟩⟩ := x
 simp only at a1 a2 ⊢
 obtain ⟨W1, hW1, F1⟩ := nam ((Fr.nil w).a w.heap.size [.bool p, .slice A n c, .bool q, .slice B m d] 31)
 refine op1 F1 ?_; intros
 have X := Hd2 (a1.go F1.bl) (a2.go F1.bl)
 have F := Hd F1
 have HE := Hd (show shortQ ((p, l), (q, k)) = (fewB l && fewB k) from rfl)
 clear a1 a2 F1
 cases h1 : fewB l
 · have H1 := Hd h1
   have H2 := Hd (show shortQ ((p, l), (q, k)) = false by rw [HE.out, h1]; rfl); clear h1; refine ent Tryz.func38 rfl Tryz.ntmps38 ?_
   gi_wp2_with (first
    | (refine Cl 82 (fewB_any p A n c l _ X.out.1) ?_
       rintro e w2 ⟨rfl, hb2⟩; rw [H1.out]; have G2 := Hd (F.out.go hb2)
       clear hb2)
    | (refine ⟨trivial, ?_⟩))
   go_ret; exact ⟨by first | (rw [H2.out]; done) | (rw [H2.out]; rfl), G2.out.bl⟩
 · have H1 := Hd h1
   have H2 := Hd (show shortQ ((p, l), (q, k)) = fewB k by rw [HE.out, h1]; rfl); clear h1; refine ent Tryz.func38 rfl Tryz.ntmps38 ?_
   gi_wp2_with (first
    | (refine ⟨trivial, ?_⟩; gi_at_call 82; have g' := G2.out; clear g'
       refine Cn (fewB_any q B m d k _ (X.out.2.go G2.out.2)) ?_; rintro e w3 ⟨rfl, hb3⟩; rw [← H2.out]; have G3 := Hd (G2.out.1.go hb3)
       clear hb3)
    | (refine Cl 82 (fewB_any p A n c l _ X.out.1) ?_
       rintro e w2 ⟨rfl, hb2⟩; rw [H1.out]; have F2 := F.out.go hb2; refine op1 F2 ?_; intros; have G2 := Hd2 F2 hb2
       clear hb2 F2)
    | fail)
   go_ret; exact ⟨rfl, G3.out.bl⟩
set_option maxHeartbeats 1000000 in
theorem short_q {M : List Nat} {v : Value} {x : RatR} {w : World} (hx : RV w M v x) :
 Calls Tryz.prog 15 #[v] w fun e w' => e = .returned (.bool (shortQ x)) ∧ Below w.heap.size w w' := by
 refine wid ?_
 obtain ⟨A, n, c, B, m, d, rfl, a1, a2⟩ := hx
 obtain ⟨⟨p, l⟩, ⟨q, k⟩⟩ := x
 simp only at a1 a2 ⊢
 obtain ⟨W1, hW1, F1⟩ := nam ((Fr.nil w).a w.heap.size [.bool p, .slice A n c, .bool q, .slice B m d] 31)
 refine op1 F1 ?_; intros
 have X := Hd (show RV W1 M (.agg #[.bool p, .slice A n c, .bool q, .slice B m d]) ((p, l), (q, k)) from ⟨_, _, _, _, _, _, rfl, a1.go F1.bl, a2.go F1.bl⟩)
 have F := Hd F1
 clear a1 a2 F1
 refine ent Tryz.func15 rfl Tryz.ntmps15 ?_
 gi_wp2_with (refine Cl 38 (fewQ_any X.out) ?_; rintro e w2 ⟨rfl, hb2⟩; have G2 := Hd (F.out.go hb2); clear hb2)
 go_ret
 exact ⟨rfl, G2.out.bl⟩
end
end Go.Proofs.YtboapndkopabiaaGreat
