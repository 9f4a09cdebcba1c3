/- Lemmas and walks (Rng2 Own2). No statement is proved here. -/
import Derived.Test.YtboapndkopabiaaGreatM23
set_option linter.unusedVariables false
set_option linter.unusedSimpArgs false
namespace Go.Proofs.YtboapndkopabiaaGreat
section
open Go.RowKit Go.Shelf
attribute [local go_sem] Oper.semAt_some
structure GC (w : World) (M : List Nat) (x : Rg) (p1 q1 : Bool) (A1 : Option Addr) (n1 c1 : Nat) (B1 : Option Addr) (m1 d1 : Nat) (p2 q2 : Bool) (A2 : Option Addr) (n2 c2 : Nat) (B2 : Option Addr) (m2 d2 : Nat) : Prop where
 lo : QC w M x.1 p1 q1 A1 n1 c1 B1 m1 d1
 hi : QC w M x.2 p2 q2 A2 n2 c2 B2 m2 d2
theorem QC.drew {w : World} {M : List Nat} {r : Rt} {p q : Bool} {A B : Option Addr} {n c m d : Nat} (h : QC w M r p q A n c B m d) : QC w.drew M r p q A n c B m d := ⟨h.num.drew, h.den.drew⟩
def GW (w : World) (M : List Nat) (v : Value) (x : Rg) : Prop := ∃ p1 q1 A1 n1 c1 B1 m1 d1 p2 q2 A2 n2 c2 B2 m2 d2, v = .agg #[.bool p1, .slice A1 n1 c1, .bool q1, .slice B1 m1 d1, .bool p2, .slice A2 n2 c2, .bool q2, .slice B2 m2 d2] ∧ QC w M x.1 p1 q1 A1 n1 c1 B1 m1 d1 ∧ QC w M x.2 p2 q2 A2 n2 c2 B2 m2 d2
theorem GW.gv {w : World} {M : List Nat} {v : Value} {x : Rg} (h : GW w M v x) : GV w M v (encG x) := by
 obtain ⟨p1, q1, A1, n1, c1, B1, m1, d1, p2, q2, A2, n2, c2, B2, m2, d2, rfl, h1, h2⟩ := h
 exact ⟨A1, n1, c1, B1, m1, d1, A2, n2, c2, B2, m2, d2, by rw [← h1.num.neg, ← h1.den.neg, ← h2.num.neg, ← h2.den.neg]; rfl, h1.num.sl, h1.den.sl, h2.num.sl, h2.den.sl⟩
def GRet (w : World) (M : List Nat) (x : Rg) (e : Ending) (w' : World) : Prop := ∃ u, e = .returned u ∧ GW w' M u x ∧ Below w.heap.size w w'
structure SlG (w : World) (M : List Nat) (A : Option Addr) (n c : Nat) (l : List Rg) : Prop where
 len : l.length = n
 small : n ≤ 140737488355328
 at_ : ∀ {k : Nat}, k < n → ∃ b o p1 q1 A1 n1 c1 B1 m1 d1 p2 q2 A2 n2 c2 B2 m2 d2, A = some ⟨b, o, none⟩ ∧
  (w.cell? ⟨b, o + k * 8, none⟩ = some (.bool p1) ∧ w.cell? ⟨b, o + k * 8 + 1, none⟩ = some (.slice A1 n1 c1) ∧ w.cell? ⟨b, o + k * 8 + 2, none⟩ = some (.bool q1) ∧ w.cell? ⟨b, o + k * 8 + 3, none⟩ = some (.slice B1 m1 d1)) ∧
  (w.cell? ⟨b, o + k * 8 + 4, none⟩ = some (.bool p2) ∧ w.cell? ⟨b, o + k * 8 + 5, none⟩ = some (.slice A2 n2 c2) ∧ w.cell? ⟨b, o + k * 8 + 6, none⟩ = some (.bool q2) ∧ w.cell? ⟨b, o + k * 8 + 7, none⟩ = some (.slice B2 m2 d2)) ∧
  QC w M (regG l k).1 p1 q1 A1 n1 c1 B1 m1 d1 ∧ QC w M (regG l k).2 p2 q2 A2 n2 c2 B2 m2 d2
theorem SlG.of {w : World} {M : List Nat} {A : Option Addr} {n c : Nat} {l : List Rg} (h : Sl RngR w M A n c (l.map encG)) : SlG w M A n c l := by
 have hn := h.len
 simp at hn
 refine ⟨hn, h.small, fun {k} hk => ?_⟩
 obtain ⟨x, hx⟩ : ∃ x, l[k]? = some x := ⟨_, List.getElem?_eq_getElem (by omega)⟩
 have he : regG l k = x := by simp [regG, hx]
 obtain ⟨b, o, A1, n1, c1, A2, n2, c2, A3, n3, c3, A4, n4, c4, rfl, g1, g2, ⟨s1, s2⟩, s3, s4⟩ := h.rngat (k := k) (x := encG x) (by rw [List.getElem?_map, hx]; rfl)
 rw [he]
 exact ⟨b, o, _, _, A1, n1, c1, A2, n2, c2, _, _, A3, n3, c3, A4, n4, c4, rfl, g1, g2, ⟨⟨rfl, s1⟩, ⟨rfl, s2⟩⟩, ⟨rfl, s3⟩, ⟨rfl, s4⟩⟩
theorem SlG.go {w w' : World} {M : List Nat} {A : Option Addr} {n c : Nat} {l : List Rg} (h : SlG w M A n c l) (hb : Below w.heap.size w w') : SlG w' M A n c l := ⟨h.len, h.small, fun {k} hk => by
 obtain ⟨b, o, p1, q1, A1, n1, c1, B1, m1, d1, p2, q2, A2, n2, c2, B2, m2, d2, rfl, ⟨h0, h1, h2, h3⟩, ⟨h4, h5, h6, h7⟩, qc, qd⟩ := h.at_ hk
 have hl : b < w.heap.size := World.block_lt_of_cell? w _ h0
 exact ⟨b, o, p1, q1, A1, n1, c1, B1, m1, d1, p2, q2, A2, n2, c2, B2, m2, d2, rfl, ⟨(hb.cell (p := ⟨b, _, none⟩) hl).trans h0, (hb.cell (p := ⟨b, _, none⟩) hl).trans h1, (hb.cell (p := ⟨b, _, none⟩) hl).trans h2, (hb.cell (p := ⟨b, _, none⟩) hl).trans h3⟩, ⟨(hb.cell (p := ⟨b, _, none⟩) hl).trans h4, (hb.cell (p := ⟨b, _, none⟩) hl).trans h5, (hb.cell (p := ⟨b, _, none⟩) hl).trans h6, (hb.cell (p := ⟨b, _, none⟩) hl).trans h7⟩, qc.go hb, qd.go hb⟩⟩
theorem SlG.more {w : World} {M : List Nat} {A : Option Addr} {n c b : Nat} {l : List Rg} (h : SlG w M A n c l) (hb : w.heap.size ≤ b) : SlG w (b :: M) A n c l := ⟨h.len, h.small, fun {k} hk => by
 obtain ⟨b', o, p1, q1, A1, n1, c1, B1, m1, d1, p2, q2, A2, n2, c2, B2, m2, d2, rfl, h1, h2, qc, qd⟩ := h.at_ hk
 exact ⟨b', o, p1, q1, A1, n1, c1, B1, m1, d1, p2, q2, A2, n2, c2, B2, m2, d2, rfl, h1, h2, qc.more hb, qd.more hb⟩⟩
theorem SlG.drew {w : World} {M : List Nat} {A : Option Addr} {n c : Nat} {l : List Rg} (h : SlG w M A n c l) : SlG w.drew M A n c l := ⟨h.len, h.small, fun {k} hk => by
 obtain ⟨b', o, p1, q1, A1, n1, c1, B1, m1, d1, p2, q2, A2, n2, c2, B2, m2, d2, rfl, h1, h2, qc, qd⟩ := h.at_ hk
 exact ⟨b', o, p1, q1, A1, n1, c1, B1, m1, d1, p2, q2, A2, n2, c2, B2, m2, d2, rfl, h1, h2, qc.drew, qd.drew⟩⟩
theorem fin8 {w V : World} {M : List Nat} {b s : Nat} {p1 q1 p2 q2 : Bool} {A1 B1 A2 B2 : Option Addr} {n1 c1 m1 d1 n2 c2 m2 d2 : Nat} {x : Rg} {u0 u1 u2 u3 u4 u5 u6 u7 : Value}
 (h0 : V.cell? ⟨b, 0, none⟩ = some u0) (h1 : V.cell? ⟨b, 1, none⟩ = some u1) (h2 : V.cell? ⟨b, 2, none⟩ = some u2) (h3 : V.cell? ⟨b, 3, none⟩ = some u3) (h4 : V.cell? ⟨b, 4, none⟩ = some u4) (h5 : V.cell? ⟨b, 5, none⟩ = some u5) (h6 : V.cell? ⟨b, 6, none⟩ = some u6) (h7 : V.cell? ⟨b, 7, none⟩ = some u7)
 (lo : QC V (b :: M) x.1 p1 q1 A1 n1 c1 B1 m1 d1) (hi : QC V (b :: M) x.2 p2 q2 A2 n2 c2 B2 m2 d2) (hb : Below s w V) (hsb : s ≤ b) :
 ∃ wF, (((((((V.setCell ⟨b, 0, none⟩ (.bool p1)).setCell ⟨b, 1, none⟩ (.slice A1 n1 c1)).setCell ⟨b, 2, none⟩ (.bool q1)).setCell ⟨b, 3, none⟩ (.slice B1 m1 d1)).setCell ⟨b, 4, none⟩ (.bool p2)).setCell ⟨b, 5, none⟩ (.slice A2 n2 c2)).setCell ⟨b, 6, none⟩ (.bool q2)).setCell ⟨b, 7, none⟩ (.slice B2 m2 d2) = wF ∧
  (wF.cell? ⟨b, 0, none⟩ = some (.bool p1) ∧ wF.cell? ⟨b, 1, none⟩ = some (.slice A1 n1 c1) ∧ wF.cell? ⟨b, 2, none⟩ = some (.bool q1) ∧ wF.cell? ⟨b, 3, none⟩ = some (.slice B1 m1 d1)) ∧ (wF.cell? ⟨b, 4, none⟩ = some (.bool p2) ∧ wF.cell? ⟨b, 5, none⟩ = some (.slice A2 n2 c2) ∧ wF.cell? ⟨b, 6, none⟩ = some (.bool q2) ∧ wF.cell? ⟨b, 7, none⟩ = some (.slice B2 m2 d2)) ∧
  GW wF M (.agg #[.bool p1, .slice A1 n1 c1, .bool q1, .slice B1 m1 d1, .bool p2, .slice A2 n2 c2, .bool q2, .slice B2 m2 d2]) x ∧ Below s w wF := by
 have kp := ((((((((Keeps.refl (b :: M) V).setCell (p := ⟨b, 0, none⟩) (.inl (by simp)) (.bool p1)).setCell (p := ⟨b, 1, none⟩) (.inl (by simp)) (.slice A1 n1 c1)).setCell (p := ⟨b, 2, none⟩) (.inl (by simp)) (.bool q1)).setCell (p := ⟨b, 3, none⟩) (.inl (by simp)) (.slice B1 m1 d1)).setCell (p := ⟨b, 4, none⟩) (.inl (by simp)) (.bool p2)).setCell (p := ⟨b, 5, none⟩) (.inl (by simp)) (.slice A2 n2 c2)).setCell (p := ⟨b, 6, none⟩) (.inl (by simp)) (.bool q2)).setCell (p := ⟨b, 7, none⟩) (.inl (by simp)) (.slice B2 m2 d2)
 have hl : ∀ k, k ∈ M → k ∈ b :: M := fun k hk => List.mem_cons_of_mem _ hk
 refine ⟨_, rfl, ⟨?_, ?_, ?_, ?_⟩, ⟨?_, ?_, ?_, ?_⟩, ⟨p1, q1, A1, n1, c1, B1, m1, d1, p2, q2, A2, n2, c2, B2, m2, d2, rfl, ⟨⟨lo.num.neg, (lo.num.sl.keep kp).less hl⟩, ⟨lo.den.neg, (lo.den.sl.keep kp).less hl⟩⟩, ⟨⟨hi.num.neg, (hi.num.sl.keep kp).less hl⟩, ⟨hi.den.neg, (hi.den.sl.keep kp).less hl⟩⟩⟩, ?_⟩
 · simp [go_sem, h0, h1, h2, h3, h4, h5, h6, h7]
 · simp [go_sem, h0, h1, h2, h3, h4, h5, h6, h7]
 · simp [go_sem, h0, h1, h2, h3, h4, h5, h6, h7]
 · simp [go_sem, h0, h1, h2, h3, h4, h5, h6, h7]
 · simp [go_sem, h0, h1, h2, h3, h4, h5, h6, h7]
 · simp [go_sem, h0, h1, h2, h3, h4, h5, h6, h7]
 · simp [go_sem, h0, h1, h2, h3, h4, h5, h6, h7]
 · simp [go_sem, h0, h1, h2, h3, h4, h5, h6, h7]
 · exact (((((((hb.setCell (p := ⟨b, 0, none⟩) hsb _).setCell (p := ⟨b, 1, none⟩) hsb _).setCell (p := ⟨b, 2, none⟩) hsb _).setCell (p := ⟨b, 3, none⟩) hsb _).setCell (p := ⟨b, 4, none⟩) hsb _).setCell (p := ⟨b, 5, none⟩) hsb _).setCell (p := ⟨b, 6, none⟩) hsb _).setCell (p := ⟨b, 7, none⟩) hsb _
abbrev zG : List Value := [.bool false, .slice none 0 0, .bool false, .slice none 0 0, .bool false, .slice none 0 0, .bool false, .slice none 0 0]
section
variable {M : List Nat} {A B A1 A2 : Option Addr} {n c m l n1 c1 n2 c2 : Nat} {ins regs : List Rg} {op a b x3 x4 : Int} {r : RatR} {p q : Bool} {w : World}
set_option maxHeartbeats 4000000 in
theorem stp1_any (hM : Bel M w) (hx : XC w M r p q A1 n1 c1 A2 n2 c2) (hr : ratOk r = true) :
 Calls Tryz.prog 59 #[.agg #[.int .i64 op, .int .i64 a, .int .i64 b, .int .i64 x3, .int .i64 x4, .bool p, .slice A1 n1 c1, .bool q, .slice A2 n2 c2], .slice B m l] w (GRet w M (decQ r, decQ r)) := by
 refine wid ?_
 obtain ⟨W1, hW1, F1⟩ := nam (((Fr.nil w).a w.heap.size [.int .i64 op, .int .i64 a, .int .i64 b, .int .i64 x3, .int .i64 x4, .bool p, .slice A1 n1 c1, .bool q, .slice A2 n2 c2] 55).a8 (w.heap.size + 1) 33)
 have FO := F1
 refine op1 FO ?_; intros
 have hx1 := (hx.more (k := w.heap.size + 1) (by omega)).go F1.bl
 have hM1 : Bel ((w.heap.size + 1) :: M) W1 := (hM.le F1.bl.size).cons (F1.ltn 1)
 have F := Hd F1
 have hins := F1.nth 0
 have hz := F1.nth 1
 clear hx hM F1 FO
 have qc := hx1.qc hr
 obtain ⟨wF, hwF, ⟨t0, t1, t2, t3⟩, ⟨t4, t5, t6, t7⟩, hG, bF⟩ := fin8 (M := M) (hz 0 _ rfl) (hz 1 _ rfl) (hz 2 _ rfl) (hz 3 _ rfl) (hz 4 _ rfl) (hz 5 _ rfl) (hz 6 _ rfl) (hz 7 _ rfl) (x := (decQ r, decQ r)) qc qc F.out.bl (by omega)
 have HW := Hd (And.intro hwF (And.intro t0 (And.intro t1 (And.intro t2 (And.intro t3 (And.intro t4 (And.intro t5 (And.intro t6 (And.intro t7 (And.intro hG bF))))))))))
 clear hx1 hM1 qc hwF t0 t1 t2 t3 t4 t5 t6 t7 hG bF hr hins hz
 refine ent Tryz.func59 rfl Tryz.ntmps59 ?_
 gi_wp2
 obtain ⟨hwF, t0, t1, t2, t3, t4, t5, t6, t7, hG, bF⟩ := HW.out
 rw [hwF]
 exact ⟨rfl, .agg #[.bool p, .slice A1 n1 c1, .bool q, .slice A2 n2 c2, .bool p, .slice A1 n1 c1, .bool q, .slice A2 n2 c2], by simp [results, go_sem, t0, t1, t2, t3, t4, t5, t6, t7], _, rfl, hG, bF⟩
set_option maxRecDepth 20000 in
set_option maxHeartbeats 4000000 in
theorem stp2_any {ib : Nat} (hM : Bel M w) (hx : XC w M r p q A1 n1 c1 A2 n2 c2) (hi : SlG w M A n c ins) (hc : w.cell? ⟨ib, 0, none⟩ = some (.slice A n c)) (ha : belowB a n = true) :
 Calls Tryz.prog 60 #[.agg #[.int .i64 op, .int .i64 a, .int .i64 b, .int .i64 x3, .int .i64 x4, .bool p, .slice A1 n1 c1, .bool q, .slice A2 n2 c2], .slice B m l, .pointer (some ⟨ib, 0, none⟩)] w (GRet w M (regG ins a)) := by
 refine wid ?_
 obtain ⟨ka, rfl, hka⟩ := below_nat ha
 have hib := World.block_lt_of_cell? w _ hc
 obtain ⟨W1, hW1, F1⟩ := nam (((Fr.nil w).a w.heap.size [.int .i64 op, .int .i64 (ka : Int), .int .i64 b, .int .i64 x3, .int .i64 x4, .bool p, .slice A1 n1 c1, .bool q, .slice A2 n2 c2] 55).a8 (w.heap.size + 1) 33)
 have FO := F1
 refine op1 FO ?_; intros
 have hx1 := (hx.more (k := w.heap.size + 1) (by omega)).go F1.bl
 have hM1 : Bel ((w.heap.size + 1) :: M) W1 := (hM.le F1.bl.size).cons (F1.ltn 1)
 have F := Hd F1
 have hins := F1.nth 0
 have hz := F1.nth 1
 clear hx hM F1 FO
 have hi1 : SlG W1 ((w.heap.size + 1) :: M) A n c ins := (hi.more (b := w.heap.size + 1) (by omega)).go F.out.bl
 have hc1 : W1.cell? ⟨ib, 0, none⟩ = some (.slice A n c) := (F.out.bl.cell (p := ⟨ib, 0, none⟩) hib).trans hc
 have hsm := hi1.small
 obtain ⟨b3, o3, p3, q3, A3, n3, c3, B3, m3, d3, p4, q4, A4, n4, c4, B4, m4, d4, rfl, ⟨h0, h1, h2, h3⟩, ⟨h4, h5, h6, h7⟩, alo, ahi⟩ := hi1.at_ hka
 obtain ⟨wF, hwF, ⟨t0, t1, t2, t3⟩, ⟨t4, t5, t6, t7⟩, hG, bF⟩ := fin8 (M := M) (hz 0 _ rfl) (hz 1 _ rfl) (hz 2 _ rfl) (hz 3 _ rfl) (hz 4 _ rfl) (hz 5 _ rfl) (hz 6 _ rfl) (hz 7 _ rfl) (x := regG ins ka) alo ahi F.out.bl (by omega)
 have HW := Hd (And.intro hwF (And.intro t0 (And.intro t1 (And.intro t2 (And.intro t3 (And.intro t4 (And.intro t5 (And.intro t6 (And.intro t7 (And.intro hG bF))))))))))
 clear hx1 hM1 hi hc hi1 alo ahi hwF t0 t1 t2 t3 t4 t5 t6 t7 hG bF hins hz ha
 refine ent Tryz.func60 rfl Tryz.ntmps60 ?_
 gi_wp2
 obtain ⟨hwF, t0, t1, t2, t3, t4, t5, t6, t7, hG, bF⟩ := HW.out
 rw [hwF]
 exact ⟨rfl, .agg #[.bool p3, .slice A3 n3 c3, .bool q3, .slice B3 m3 d3, .bool p4, .slice A4 n4 c4, .bool q4, .slice B4 m4 d4], by simp [results, go_sem, t0, t1, t2, t3, t4, t5, t6, t7], _, rfl, hG, bF⟩
set_option maxRecDepth 20000 in
set_option maxHeartbeats 8000000 in
theorem stp3_any (hM : Bel M w) (hx : XC w M r p q A1 n1 c1 A2 n2 c2) (hl : SlG w M B m l regs) (ha : belowB a m = true) (hb : belowB b m = true) (oa : OkG (regG regs a)) (ob : OkG (regG regs b)) :
 Calls Tryz.prog 61 #[.agg #[.int .i64 op, .int .i64 a, .int .i64 b, .int .i64 x3, .int .i64 x4, .bool p, .slice A1 n1 c1, .bool q, .slice A2 n2 c2], .slice B m l] w (GRet w M (addG (regG regs a) (regG regs b))) := by
 refine wid ?_
 obtain ⟨ka, rfl, hka⟩ := below_nat ha
 obtain ⟨kb, rfl, hkb⟩ := below_nat hb
 obtain ⟨W1, hW1, F1⟩ := nam (((Fr.nil w).a w.heap.size [.int .i64 op, .int .i64 (ka : Int), .int .i64 (kb : Int), .int .i64 x3, .int .i64 x4, .bool p, .slice A1 n1 c1, .bool q, .slice A2 n2 c2] 55).a8 (w.heap.size + 1) 33)
 have FO := F1
 refine op1 FO ?_; intros
 have hx1 := (hx.more (k := w.heap.size + 1) (by omega)).go F1.bl
 have hM1 : Bel ((w.heap.size + 1) :: M) W1 := (hM.le F1.bl.size).cons (F1.ltn 1)
 have F := Hd F1
 have hins := F1.nth 0
 have hz := F1.nth 1
 clear hx hM F1 FO
 have hl1 : SlG W1 ((w.heap.size + 1) :: M) B m l regs := (hl.more (b := w.heap.size + 1) (by omega)).go F.out.bl
 have hsm := hl1.small
 clear hl
 obtain ⟨b3, o3, p3, q3, A3, n3, c3, B3, m3, d3, p4, q4, A4, n4, c4, B4, m4, d4, rfl, ⟨h0, h1, h2, h3⟩, ⟨h4, h5, h6, h7⟩, alo, ahi⟩ := hl1.at_ hka
 obtain ⟨b5, o5, p5, q5, A5, n5, c5, B5, m5, d5, p6, q6, A6, n6, c6, B6, m6, d6, e0, ⟨k0, k1, k2, k3⟩, ⟨k4, k5, k6, k7⟩, blo, bhi⟩ := hl1.at_ hkb
 obtain ⟨rfl, rfl⟩ : b3 = b5 ∧ o3 = o5 := by simpa using e0
 have X := Hd5 alo.drew ahi.drew blo.drew bhi.drew hM1
 have HO := Hd2 oa ob
 have v0 := stays_drew h0
 have v1 := stays_drew h1
 have v2 := stays_drew h2
 have v3 := stays_drew h3
 have v4 := stays_drew h4
 have v5 := stays_drew h5
 have v6 := stays_drew h6
 have v7 := stays_drew h7
 have x0 := stays_drew k0
 have x1 := stays_drew k1
 have x2 := stays_drew k2
 have x3' := stays_drew k3
 have x4' := stays_drew k4
 have x5 := stays_drew k5
 have x6 := stays_drew k6
 have x7 := stays_drew k7
 have v8 := stays_drew (hins 1 _ rfl)
 have v9 := stays_drew (hins 2 _ rfl)
 clear hx1 hM1 alo ahi blo bhi h0 h1 h2 h3 h4 h5 h6 h7 k0 k1 k2 k3 k4 k5 k6 k7 e0 oa ob ha hb hins hz hl1
 refine ent Tryz.func61 rfl Tryz.ntmps61 ?_
 gi_wp2
 refine region_E_np [] 33 (by kernel_rfl) (by kernel_rfl) ?_
 refine E_rd 0 ?_; refine E_rd 1 ?_; refine E_rd 2 ?_; refine E_rd 3 ?_; refine E_rd 4 ?_; refine E_rd 5 ?_; refine E_rd 6 ?_; refine E_rd 7 ?_; refine E_rd 8 ?_; refine E_rd 9 ?_; refine E_rd 10 ?_; refine E_rd 11 ?_
 refine E_rd 16 ?_; refine E_rd 17 ?_; refine E_rd 18 ?_; refine E_rd 19 ?_; refine E_rd 20 ?_; refine E_rd 21 ?_; refine E_rd 22 ?_; refine E_rd 23 ?_; refine E_rd 24 ?_; refine E_rd 25 ?_; refine E_rd 26 ?_; refine E_rd 27 ?_
 refine E_al 12 fun K hK => ?_; gi_wp2
 refine Cm (qAdd_any (M := (w.heap.size + 1) :: M) (a := (regG regs ka).1) (b := (regG regs kb).1) (X.out.2.2.2.2.le (w' := W1.drew) (Nat.le_refl _)) X.out.1.qw X.out.2.2.1.qw HO.out.1.1.1 HO.out.2.1.1 (HO.out.1.1.2.fine HO.out.2.1.2)) ?_
 rintro e w2 ⟨u2, rfl, z2, hb2⟩
 have G2 := Hd2 z2 hb2
 refine hK _ _ ⟨?_, ?_⟩; clear hK K
 · exact Keeps.of_below hb2 []
 refine lit ?_
 clear z2 hb2
 refine E_rd 13 ?_; refine E_rd 14 ?_
 refine E_al 15 fun K hK => ?_; gi_wp2
 refine Cm (getQ_yes (M := (w.heap.size + 1) :: M) (X.out.2.2.2.2.le (Nat.le_trans (Nat.le_refl _) G2.out.2.size)) G2.out.1) ?_
 rintro e w3 ⟨u3, rfl, z3, hb3⟩
 obtain ⟨p7, q7, A7, n7, c7, B7, m7, d7, rfl, qc7⟩ := QC.of z3
 have G3 := Hd2 qc7 (G2.out.2.trans (hb3.mono G2.out.2.size))
 refine hK _ _ ⟨?_, ?_⟩; clear hK K
 · exact Keeps.of_below hb3 []
 refine lit ?_
 clear z3 hb3 qc7
 refine E_al 28 fun K hK => ?_; gi_wp2
 refine Cm (qAdd_any (M := (w.heap.size + 1) :: M) (a := (regG regs ka).2) (b := (regG regs kb).2) (X.out.2.2.2.2.le G3.out.2.size) (X.out.2.1.go G3.out.2).qw (X.out.2.2.2.1.go G3.out.2).qw HO.out.1.2.1 HO.out.2.2.1 (HO.out.1.2.2.fine HO.out.2.2.2)) ?_
 rintro e w4 ⟨u4, rfl, z4, hb4⟩
 have G4 := Hd3 z4 (G3.out.1.go hb4) (G3.out.2.trans (hb4.mono G3.out.2.size))
 refine hK _ _ ⟨?_, ?_⟩; clear hK K
 · exact Keeps.of_below hb4 []
 refine lit ?_
 clear z4 hb4
 refine E_rd 29 ?_; refine E_rd 30 ?_
 refine E_al 31 fun K hK => ?_; gi_wp2
 refine Cm (getQ_yes (M := (w.heap.size + 1) :: M) (X.out.2.2.2.2.le G4.out.2.2.size) G4.out.1) ?_
 rintro e w5 ⟨u5, rfl, z5, hb5⟩
 obtain ⟨p8, q8, A8, n8, c8, B8, m8, d8, rfl, qc8⟩ := QC.of z5
 have F5 := F.out.drew.go (G4.out.2.2.trans (hb5.mono G4.out.2.2.size))
 refine op1 F5 ?_; intros
 have G5 := Hd3 F5 (G4.out.2.1.go hb5) qc8
 refine hK _ _ ⟨?_, ?_⟩; clear hK K
 · exact Keeps.of_below hb5 []
 refine lit ?_
 clear z5 hb5 qc8 F5
 refine E_rd 32 ?_
 refine E_nl 1 ?_; refine tls fun K hK K' hK' => ?_; gi_wp2; refine tail_nil _ ?_; simp only [npost]; gi_wp2
 have hz := G5.out.1.nth 1
 obtain ⟨wF, hwF, ⟨t0, t1, t2, t3⟩, ⟨t4, t5, t6, t7⟩, hG, bF⟩ := fin8 (M := M) (hz 0 _ rfl) (hz 1 _ rfl) (hz 2 _ rfl) (hz 3 _ rfl) (hz 4 _ rfl) (hz 5 _ rfl) (hz 6 _ rfl) (hz 7 _ rfl) (x := addG (regG regs ka) (regG regs kb)) G5.out.2.1 G5.out.2.2 G5.out.1.bl (by omega)
 rw [hwF]
 exact ⟨rfl, .agg #[.bool p7, .slice A7 n7 c7, .bool q7, .slice B7 m7 d7, .bool p8, .slice A8 n8 c8, .bool q8, .slice B8 m8 d8], by simp [results, go_sem, t0, t1, t2, t3, t4, t5, t6, t7], _, rfl, hG, bF⟩
set_option maxRecDepth 20000 in
set_option maxHeartbeats 8000000 in
theorem stp4_any (hM : Bel M w) (hx : XC w M r p q A1 n1 c1 A2 n2 c2) (hl : SlG w M B m l regs) (ha : belowB a m = true) (hb : belowB b m = true) (oa : OkG (regG regs a)) (ob : OkG (regG regs b)) :
 Calls Tryz.prog 64 #[.agg #[.int .i64 op, .int .i64 a, .int .i64 b, .int .i64 x3, .int .i64 x4, .bool p, .slice A1 n1 c1, .bool q, .slice A2 n2 c2], .slice B m l] w (GRet w M (subG (regG regs a) (regG regs b))) := by
 refine wid ?_
 obtain ⟨ka, rfl, hka⟩ := below_nat ha
 obtain ⟨kb, rfl, hkb⟩ := below_nat hb
 obtain ⟨W1, hW1, F1⟩ := nam (((Fr.nil w).a w.heap.size [.int .i64 op, .int .i64 (ka : Int), .int .i64 (kb : Int), .int .i64 x3, .int .i64 x4, .bool p, .slice A1 n1 c1, .bool q, .slice A2 n2 c2] 55).a8 (w.heap.size + 1) 33)
 have FO := F1
 refine op1 FO ?_; intros
 have hx1 := (hx.more (k := w.heap.size + 1) (by omega)).go F1.bl
 have hM1 : Bel ((w.heap.size + 1) :: M) W1 := (hM.le F1.bl.size).cons (F1.ltn 1)
 have F := Hd F1
 have hins := F1.nth 0
 have hz := F1.nth 1
 clear hx hM F1 FO
 have hl1 : SlG W1 ((w.heap.size + 1) :: M) B m l regs := (hl.more (b := w.heap.size + 1) (by omega)).go F.out.bl
 have hsm := hl1.small
 clear hl
 obtain ⟨b3, o3, p3, q3, A3, n3, c3, B3, m3, d3, p4, q4, A4, n4, c4, B4, m4, d4, rfl, ⟨h0, h1, h2, h3⟩, ⟨h4, h5, h6, h7⟩, alo, ahi⟩ := hl1.at_ hka
 obtain ⟨b5, o5, p5, q5, A5, n5, c5, B5, m5, d5, p6, q6, A6, n6, c6, B6, m6, d6, e0, ⟨k0, k1, k2, k3⟩, ⟨k4, k5, k6, k7⟩, blo, bhi⟩ := hl1.at_ hkb
 obtain ⟨rfl, rfl⟩ : b3 = b5 ∧ o3 = o5 := by simpa using e0
 have X := Hd5 alo.drew ahi.drew blo.drew bhi.drew hM1
 have HO := Hd2 oa ob
 have v0 := stays_drew h0
 have v1 := stays_drew h1
 have v2 := stays_drew h2
 have v3 := stays_drew h3
 have v4 := stays_drew h4
 have v5 := stays_drew h5
 have v6 := stays_drew h6
 have v7 := stays_drew h7
 have x0 := stays_drew k0
 have x1 := stays_drew k1
 have x2 := stays_drew k2
 have x3' := stays_drew k3
 have x4' := stays_drew k4
 have x5 := stays_drew k5
 have x6 := stays_drew k6
 have x7 := stays_drew k7
 have v8 := stays_drew (hins 1 _ rfl)
 have v9 := stays_drew (hins 2 _ rfl)
 clear hx1 hM1 alo ahi blo bhi h0 h1 h2 h3 h4 h5 h6 h7 k0 k1 k2 k3 k4 k5 k6 k7 e0 oa ob ha hb hins hz hl1
 refine ent Tryz.func64 rfl Tryz.ntmps64 ?_
 gi_wp2
 refine region_E_np [] 33 (by kernel_rfl) (by kernel_rfl) ?_
 refine E_rd 0 ?_; refine E_rd 1 ?_; refine E_rd 2 ?_; refine E_rd 3 ?_; refine E_rd 4 ?_; refine E_rd 5 ?_; refine E_rd 6 ?_; refine E_rd 7 ?_; refine E_rd 8 ?_; refine E_rd 9 ?_; refine E_rd 10 ?_; refine E_rd 11 ?_
 refine E_rd 16 ?_; refine E_rd 17 ?_; refine E_rd 18 ?_; refine E_rd 19 ?_; refine E_rd 20 ?_; refine E_rd 21 ?_; refine E_rd 22 ?_; refine E_rd 23 ?_; refine E_rd 24 ?_; refine E_rd 25 ?_; refine E_rd 26 ?_; refine E_rd 27 ?_
 refine E_al 12 fun K hK => ?_; gi_wp2
 refine Cm (qSub_any (M := (w.heap.size + 1) :: M) (a := (regG regs ka).1) (b := (regG regs kb).2) (X.out.2.2.2.2.le (w' := W1.drew) (Nat.le_refl _)) X.out.1.qw X.out.2.2.2.1.qw HO.out.1.1.1 HO.out.2.2.1 (HO.out.1.1.2.fine HO.out.2.2.2)) ?_
 rintro e w2 ⟨u2, rfl, z2, hb2⟩
 have G2 := Hd2 z2 hb2
 refine hK _ _ ⟨?_, ?_⟩; clear hK K
 · exact Keeps.of_below hb2 []
 refine lit ?_
 clear z2 hb2
 refine E_rd 13 ?_; refine E_rd 14 ?_
 refine E_al 15 fun K hK => ?_; gi_wp2
 refine Cm (getQ_yes (M := (w.heap.size + 1) :: M) (X.out.2.2.2.2.le (Nat.le_trans (Nat.le_refl _) G2.out.2.size)) G2.out.1) ?_
 rintro e w3 ⟨u3, rfl, z3, hb3⟩
 obtain ⟨p7, q7, A7, n7, c7, B7, m7, d7, rfl, qc7⟩ := QC.of z3
 have G3 := Hd2 qc7 (G2.out.2.trans (hb3.mono G2.out.2.size))
 refine hK _ _ ⟨?_, ?_⟩; clear hK K
 · exact Keeps.of_below hb3 []
 refine lit ?_
 clear z3 hb3 qc7
 refine E_al 28 fun K hK => ?_; gi_wp2
 refine Cm (qSub_any (M := (w.heap.size + 1) :: M) (a := (regG regs ka).2) (b := (regG regs kb).1) (X.out.2.2.2.2.le G3.out.2.size) (X.out.2.1.go G3.out.2).qw (X.out.2.2.1.go G3.out.2).qw HO.out.1.2.1 HO.out.2.1.1 (HO.out.1.2.2.fine HO.out.2.1.2)) ?_
 rintro e w4 ⟨u4, rfl, z4, hb4⟩
 have G4 := Hd3 z4 (G3.out.1.go hb4) (G3.out.2.trans (hb4.mono G3.out.2.size))
 refine hK _ _ ⟨?_, ?_⟩; clear hK K
 · exact Keeps.of_below hb4 []
 refine lit ?_
 clear z4 hb4
 refine E_rd 29 ?_; refine E_rd 30 ?_
 refine E_al 31 fun K hK => ?_; gi_wp2
 refine Cm (getQ_yes (M := (w.heap.size + 1) :: M) (X.out.2.2.2.2.le G4.out.2.2.size) G4.out.1) ?_
 rintro e w5 ⟨u5, rfl, z5, hb5⟩
 obtain ⟨p8, q8, A8, n8, c8, B8, m8, d8, rfl, qc8⟩ := QC.of z5
 have F5 := F.out.drew.go (G4.out.2.2.trans (hb5.mono G4.out.2.2.size))
 refine op1 F5 ?_; intros
 have G5 := Hd3 F5 (G4.out.2.1.go hb5) qc8
 refine hK _ _ ⟨?_, ?_⟩; clear hK K
 · exact Keeps.of_below hb5 []
 refine lit ?_
 clear z5 hb5 qc8 F5
 refine E_rd 32 ?_
 refine E_nl 1 ?_; refine tls fun K hK K' hK' => ?_; gi_wp2; refine tail_nil _ ?_; simp only [npost]; gi_wp2
 have hz := G5.out.1.nth 1
 obtain ⟨wF, hwF, ⟨t0, t1, t2, t3⟩, ⟨t4, t5, t6, t7⟩, hG, bF⟩ := fin8 (M := M) (hz 0 _ rfl) (hz 1 _ rfl) (hz 2 _ rfl) (hz 3 _ rfl) (hz 4 _ rfl) (hz 5 _ rfl) (hz 6 _ rfl) (hz 7 _ rfl) (x := subG (regG regs ka) (regG regs kb)) G5.out.2.1 G5.out.2.2 G5.out.1.bl (by omega)
 rw [hwF]
 exact ⟨rfl, .agg #[.bool p7, .slice A7 n7 c7, .bool q7, .slice B7 m7 d7, .bool p8, .slice A8 n8 c8, .bool q8, .slice B8 m8 d8], by simp [results, go_sem, t0, t1, t2, t3, t4, t5, t6, t7], _, rfl, hG, bF⟩
end
end
section
open Go.RowKit Go.Shelf
theorem app_one {α : Type} [RepC α] {t ty e : TypeId} {i : TypeInfo} {z : Value} {w : World} {M : List Nat} {base : Nat} {v : Value} {n : Nat} {xs : List α} {x : α} {cs : List Value}
 (h : OwnS α e w M base v n xs) (hb : base ≤ w.heap.size) (hM : Bel M w) (ht : Tryz.prog.underlying t = some (.slice e)) (hi : Tryz.prog.info? e = some i) (hz : i.zero = some z) (hs : i.size = Rep.sz α) (hzs : z.cells.size = Rep.sz α) (hbt : i.bytes ≤ 200)
 (hx : Rep.rd w (ownL v ++ M) x cs) (hn : n ≤ 100000) :
 ∃ v' w', (Builtin.append_ #[t, t] ty #[v, .slice (some ⟨w.heap.size, 0, none⟩) 1 1]).run Tryz.prog (w.alloc (.cells cs.toArray e)) = .ok v' w' ∧ OwnS α e w' M base v' (n + 1) (xs ++ [x]) ∧ w.grownBy w' v.ownBlock ∧ (v'.ownBlock = v.ownBlock ∨ v'.ownBlock = some (w.heap.size + 1)) ∧ Keeps (ownL v) (w.alloc (.cells cs.toArray e)) w' := by
 have hown : ∀ q, q ∈ ownL v → q < w.heap.size := fun q hq => (h.lt (mem_ownL.1 hq)).2
 have hMo : Bel (ownL v ++ M) w := fun q hq => by
  rcases List.mem_append.1 hq with hq | hq
  · exact hown q hq
  · exact hM q hq
 have hsl : Sl α (w.alloc (.cells cs.toArray e)) (ownL v ++ M) (some ⟨w.heap.size, 0, none⟩) 1 1 [x] := by
  refine Sl.lit hMo e (cs := cs) rfl (by omega) fun k y hk => ?_
  match k, hk with
  | 0, hk => cases hk; exact ⟨cs, hx, fun j u hu => by simpa using hu⟩
 have hbl : Below w.heap.size w (w.alloc (.cells cs.toArray e)) := by exact bel
 have hnb : (n + 1) * i.bytes ≤ 140737488355328 := Nat.le_trans (Nat.mul_le_mul (show n + 1 ≤ 100001 by omega) hbt) (by decide)
 obtain ⟨v', w', r1, r2, r3, r4⟩ := (h.go hbl).appendN (ty := ty) (t := t) (by simp; omega) ht hi hz hs hzs hsl hnb (by omega)
 refine ⟨v', w', r1, r2, ?_, by simpa using r4, r3.size, fun k hk hm => r3.block k hk (fun e => hm (mem_ownL.2 e.symm))⟩
 exact ⟨r3.os.trans hbl.os, r3.tape.trans hbl.tape, r3.output.trans hbl.output, Nat.le_trans hbl.size r3.size, fun k hk hne => (r3.block k (Nat.lt_of_lt_of_le hk hbl.size) hne).trans (hbl.block k hk)⟩
theorem rat_info : (Tryz.prog.info? 31).map (fun i => (i.zero, i.size, i.bytes)) = some (some (.agg #[.bool false, .slice none 0 0, .bool false, .slice none 0 0]), 4, 64) := by kernel_rfl
theorem rng_info : (Tryz.prog.info? 33).map (fun i => (i.zero, i.size, i.bytes)) = some (some (.agg #[.bool false, .slice none 0 0, .bool false, .slice none 0 0, .bool false, .slice none 0 0, .bool false, .slice none 0 0]), 8, 128) := by kernel_rfl
abbrev OwnQ (w : World) (M : List Nat) (base : Nat) (v : Value) (n : Nat) (l : List Rt) : Prop := OwnS RatR 31 w M base v n (l.map encQ)
abbrev OwnG (w : World) (M : List Nat) (base : Nat) (v : Value) (n : Nat) (l : List Rg) : Prop := OwnS RngR 33 w M base v n (l.map encG)
theorem app_rat {w : World} {M : List Nat} {base : Nat} {v : Value} {n : Nat} {l : List Rt} {x : Rt} {p q : Bool} {A B : Option Addr} {k c m d : Nat} (h : OwnQ w M base v n l) (hb : base ≤ w.heap.size) (hM : Bel M w) (hx : QC w (ownL v ++ M) x p q A k c B m d) (hn : n ≤ 100000) :
 ∃ v' w', (Builtin.append_ #[39, 39] 39 #[v, .slice (some ⟨w.heap.size, 0, none⟩) 1 1]).run Tryz.prog (w.alloc (.cells #[.bool p, .slice A k c, .bool q, .slice B m d] 31)) = .ok v' w' ∧ OwnQ w' M base v' (n + 1) (l ++ [x]) ∧ w.grownBy w' v.ownBlock ∧ (v'.ownBlock = v.ownBlock ∨ v'.ownBlock = some (w.heap.size + 1)) ∧ Keeps (ownL v) (w.alloc (.cells #[.bool p, .slice A k c, .bool q, .slice B m d] 31)) w' := by
 obtain ⟨i, hi, hz, hs, hb2⟩ := info_parts rat_info
 obtain ⟨v', w', r1, r2, r3, r4⟩ := app_one (ty := 39) (t := 39) (x := encQ x) (cs := [.bool p, .slice A k c, .bool q, .slice B m d]) h hb hM Tryz.underlying39 hi hz hs rfl (by omega) (by
  have e1 : (encQ x).1.1 = p := hx.num.neg; have e2 : (encQ x).2.1 = q := hx.den.neg; rw [← e1, ← e2]
  exact rat_rd (x := encQ x) hx.num.sl hx.den.sl) hn
 exact ⟨v', w', r1, by rw [OwnQ, List.map_append]; exact r2, r3, r4⟩
theorem app_rng {w : World} {M : List Nat} {base : Nat} {v : Value} {n : Nat} {l : List Rg} {x : Rg} {p1 q1 p2 q2 : Bool} {A1 B1 A2 B2 : Option Addr} {n1 c1 m1 d1 n2 c2 m2 d2 : Nat} (h : OwnG w M base v n l) (hb : base ≤ w.heap.size) (hM : Bel M w) (hlo : QC w (ownL v ++ M) x.1 p1 q1 A1 n1 c1 B1 m1 d1) (hhi : QC w (ownL v ++ M) x.2 p2 q2 A2 n2 c2 B2 m2 d2) (hn : n ≤ 100000) :
 ∃ v' w', (Builtin.append_ #[23, 23] 23 #[v, .slice (some ⟨w.heap.size, 0, none⟩) 1 1]).run Tryz.prog (w.alloc (.cells #[.bool p1, .slice A1 n1 c1, .bool q1, .slice B1 m1 d1, .bool p2, .slice A2 n2 c2, .bool q2, .slice B2 m2 d2] 33)) = .ok v' w' ∧ OwnG w' M base v' (n + 1) (l ++ [x]) ∧ w.grownBy w' v.ownBlock ∧ (v'.ownBlock = v.ownBlock ∨ v'.ownBlock = some (w.heap.size + 1)) ∧ Keeps (ownL v) (w.alloc (.cells #[.bool p1, .slice A1 n1 c1, .bool q1, .slice B1 m1 d1, .bool p2, .slice A2 n2 c2, .bool q2, .slice B2 m2 d2] 33)) w' := by
 obtain ⟨i, hi, hz, hs, hb2⟩ := info_parts rng_info
 obtain ⟨v', w', r1, r2, r3, r4⟩ := app_one (ty := 23) (t := 23) (x := encG x) (cs := [.bool p1, .slice A1 n1 c1, .bool q1, .slice B1 m1 d1, .bool p2, .slice A2 n2 c2, .bool q2, .slice B2 m2 d2]) h hb hM Tryz.underlying23 hi hz hs rfl (by omega) (by
  have e1 : (encG x).1.1.1 = p1 := hlo.num.neg; have e2 : (encG x).1.2.1 = q1 := hlo.den.neg; have e3 : (encG x).2.1.1 = p2 := hhi.num.neg; have e4 : (encG x).2.2.1 = q2 := hhi.den.neg; rw [← e1, ← e2, ← e3, ← e4]
  exact rng_rd (x := encG x) hlo.num.sl hlo.den.sl hhi.num.sl hhi.den.sl) hn
 exact ⟨v', w', r1, by rw [OwnG, List.map_append]; exact r2, r3, r4⟩
theorem OwnS.cells {α : Type} [RepC α] {e : TypeId} {w : World} {M : List Nat} {base : Nat} {v : Value} {n : Nat} {xs : List α} (h : OwnS α e w M base v n xs) :
 (v = .slice none 0 0 ∧ n = 0) ∨ ∃ g c, v = .slice (some ⟨g, 0, none⟩) n c ∧ n ≤ c ∧ base ≤ g ∧ ∀ k x, xs[k]? = some x → ∃ es, Rep.rd w (ownL v ++ M) x es ∧ ∀ j u, es[j]? = some u → w.cell? ⟨g, k * Rep.sz α + j, none⟩ = some u := by
 obtain ⟨cs, h1, h2⟩ := h.ex
 rcases h1.2 with ⟨rfl, rfl⟩ | ⟨g, cap, cur, rfl, hb, hh, hnc, hcm, hsz, htk⟩
 · exact .inl ⟨rfl, rfl⟩
 · refine .inr ⟨g, cap, rfl, hnc, hb, fun k x hk => ?_⟩
   obtain ⟨es, a, b⟩ := h2 k x hk; refine ⟨es, a, fun j u hu => ?_⟩; have h3 := b j u hu; have hlt := (List.getElem?_eq_some_iff.1 h3).1; have := h1.1; rw [← htk, List.getElem?_take_of_lt (by omega), Array.getElem?_toList] at h3
   simp [World.cell?, hh, h3]
theorem OwnS.slQ {w : World} {M : List Nat} {base : Nat} {v : Value} {n : Nat} {l : List Rt} (h : OwnQ w M base v n l) (hn : n ≤ 100000) : ∃ A c, v = .slice A n c ∧ SlQ w (ownL v ++ M) A n c l := by
 have hl : l.length = n := by have := h.len; simpa using this
 rcases h.cells with ⟨rfl, rfl⟩ | ⟨g, c, rfl, -, -, hc⟩
 · exact ⟨none, 0, rfl, hl, by omega, fun {k} hk => by omega⟩
 · refine ⟨_, c, rfl, hl, by omega, fun {k} hk => ?_⟩
   obtain ⟨x, hx⟩ : ∃ x, l[k]? = some x := ⟨_, List.getElem?_eq_getElem (by omega)⟩
   obtain ⟨es, h1, h2⟩ := hc k (encQ x) (by rw [List.getElem?_map, hx]; rfl); obtain ⟨A, n1, c1, B, m1, d1, rfl, g1, g2⟩ := rd_rat h1
   have he : regQ l k = x := by simp [regQ, hx]
   rw [he]
   have h3 := fun j u hu => h2 j u hu
   refine ⟨g, 0, _, _, A, n1, c1, B, m1, d1, rfl, ⟨?_, ?_, ?_, ?_⟩, ⟨rfl, g1⟩, ⟨rfl, g2⟩⟩
   · rw [Nat.zero_add]; exact h2 0 _ rfl
   · rw [Nat.zero_add]; exact h2 1 _ rfl
   · rw [Nat.zero_add]; exact h2 2 _ rfl
   · rw [Nat.zero_add]; exact h2 3 _ rfl
theorem OwnS.slG {w : World} {M : List Nat} {base : Nat} {v : Value} {n : Nat} {l : List Rg} (h : OwnG w M base v n l) (hn : n ≤ 100000) : ∃ A c, v = .slice A n c ∧ SlG w (ownL v ++ M) A n c l := by
 have hl : l.length = n := by have := h.len; simpa using this
 rcases h.cells with ⟨rfl, rfl⟩ | ⟨g, c, rfl, -, -, hc⟩
 · exact ⟨none, 0, rfl, hl, by omega, fun {k} hk => by omega⟩
 · refine ⟨_, c, rfl, hl, by omega, fun {k} hk => ?_⟩
   obtain ⟨x, hx⟩ : ∃ x, l[k]? = some x := ⟨_, List.getElem?_eq_getElem (by omega)⟩
   obtain ⟨es, h1, h2⟩ := hc k (encG x) (by rw [List.getElem?_map, hx]; rfl); obtain ⟨A, n1, c1, B, m1, d1, E, n2, c2, F, m2, d2, rfl, g1, g2, g3, g4⟩ := rd_rng h1
   have he : regG l k = x := by simp [regG, hx]
   rw [he]; refine ⟨g, 0, _, _, A, n1, c1, B, m1, d1, _, _, E, n2, c2, F, m2, d2, rfl, ⟨?_, ?_, ?_, ?_⟩, ⟨?_, ?_, ?_, ?_⟩, ⟨⟨rfl, g1⟩, ⟨rfl, g2⟩⟩, ⟨rfl, g3⟩, ⟨rfl, g4⟩⟩
   · rw [Nat.zero_add]; exact h2 0 _ rfl
   · rw [Nat.zero_add]; exact h2 1 _ rfl
   · rw [Nat.zero_add]; exact h2 2 _ rfl
   · rw [Nat.zero_add]; exact h2 3 _ rfl
   · rw [Nat.zero_add]; exact h2 4 _ rfl
   · rw [Nat.zero_add]; exact h2 5 _ rfl
   · rw [Nat.zero_add]; exact h2 6 _ rfl
   · rw [Nat.zero_add]; exact h2 7 _ rfl
theorem OwnS.keepM {α : Type} [RepC α] {e : TypeId} {w w' : World} {M K : List Nat} {base : Nat} {v : Value} {n : Nat} {xs : List α} (h : OwnS α e w M base v n xs) (k : Keeps K w w') (hK : ∀ x, x ∈ K → x ∈ M) (hv : ∀ g, v.ownBlock = some g → g ∉ K) : OwnS α e w' M base v n xs := by
 obtain ⟨cs, h1, h2⟩ := h.ex
 refine ⟨h.len, cs, own_stay h1 (fun g hg hl => k.block g hl (hv g hg)), fun j x hx => ?_⟩
 obtain ⟨es, a, b⟩ := h2 j x hx
 exact ⟨es, Rep.keep a (k.mono (fun x hx => List.mem_append_right _ (hK x hx))), b⟩
theorem OwnS.made {α : Type} [RepC α] {e : TypeId} (w : World) (M : List Nat) {base : Nat} (hb : base ≤ w.heap.size) (cur : Array Value) (cap : Nat) (hm : cap ≤ 1000000) (hs : cur.size = cap * Rep.sz α) : OwnS α e (w.alloc (.cells cur e)) M base (.slice (some ⟨w.heap.size, 0, none⟩) 0 cap) 0 [] :=
 ⟨rfl, [], World.ownsRow_made w cur cap hb (by simp [maxLen]; omega) hs, fun k x hx => by simp at hx⟩
theorem Fr.grown {w W W' : World} {L : List (Nat × List Value)} {row : Option Nat} (h : Fr w W L) (hg : W.grownBy W' row) (hr : ∀ k, row = some k → w.heap.size ≤ k ∧ ∀ b vs, (b, vs) ∈ L → b ≠ k) : Fr w W' L :=
 ⟨h.bl.grown hg h.bl.size (fun k hk => (hr k hk).1), fun b vs hm i u hu => by
  have hl := h.lt b vs hm; have hb := hg.block b hl (fun e => (hr b e.symm).2 b vs hm rfl); have := h.at_ b vs hm i u hu
  exact ⟨by rw [← this.1]; simp only [World.cell?, hb], by rw [← this.2]; simp only [World.frozen?, hb]⟩, fun b vs hm => Nat.lt_of_lt_of_le (h.lt b vs hm) hg.size, h.ge⟩
theorem SlQ.moreL {w : World} {M : List Nat} {A : Option Addr} {n c : Nat} {l : List Rt} (h : SlQ w M A n c l) : ∀ (L : List Nat), (∀ k, k ∈ L → w.heap.size ≤ k) → SlQ w (L ++ M) A n c l
 | [], _ => h
 | b :: L, hL => (SlQ.moreL h L (fun k hk => hL k (List.mem_cons_of_mem _ hk))).more (hL b List.mem_cons_self)
theorem SlG.moreL {w : World} {M : List Nat} {A : Option Addr} {n c : Nat} {l : List Rg} (h : SlG w M A n c l) : ∀ (L : List Nat), (∀ k, k ∈ L → w.heap.size ≤ k) → SlG w (L ++ M) A n c l
 | [], _ => h
 | b :: L, hL => (SlG.moreL h L (fun k hk => hL k (List.mem_cons_of_mem _ hk))).more (hL b List.mem_cons_self)
theorem QC.less {w : World} {M M' : List Nat} {r : Rt} {p q : Bool} {A B : Option Addr} {n c m d : Nat} (h : QC w M r p q A n c B m d) (hs : ∀ k, k ∈ M' → k ∈ M) : QC w M' r p q A n c B m d := ⟨⟨h.num.neg, h.num.sl.less hs⟩, ⟨h.den.neg, h.den.sl.less hs⟩⟩
theorem SlQ.less {w : World} {M M' : List Nat} {A : Option Addr} {n c : Nat} {l : List Rt} (h : SlQ w M A n c l) (hs : ∀ k, k ∈ M' → k ∈ M) : SlQ w M' A n c l := ⟨h.len, h.small, fun {k} hk => by
 obtain ⟨b', o, p, q, A1, n1, c1, A2, n2, c2, rfl, hc, qc⟩ := h.at_ hk
 exact ⟨b', o, p, q, A1, n1, c1, A2, n2, c2, rfl, hc, ⟨qc.num.neg, qc.num.sl.less hs⟩, ⟨qc.den.neg, qc.den.sl.less hs⟩⟩⟩
end
end Go.Proofs.YtboapndkopabiaaGreat
