/- Lemmas and walks (Cod6). No statement is proved here. -/
import Derived.Test.YtboapndkopabiaaGreatM22
set_option linter.unusedVariables false
set_option linter.unusedSimpArgs false
namespace Go.Proofs.YtboapndkopabiaaGreat
open Go.RowKit Go.Shelf
attribute [local go_sem] Oper.semAt_some
structure XC (w : World) (M : List Nat) (r : RatR) (p q : Bool) (A : Option Addr) (n c : Nat) (B : Option Addr) (m d : Nat) : Prop where
 hp : r.1.1 = p
 hq : r.2.1 = q
 s1 : Sl Int w M A n c r.1.2
 s2 : Sl Int w M B m d r.2.2
theorem XC.go {w w' : World} {M : List Nat} {r : RatR} {p q : Bool} {A B : Option Addr} {n c m d : Nat} (h : XC w M r p q A n c B m d) (hb : Below w.heap.size w w') : XC w' M r p q A n c B m d := ⟨h.hp, h.hq, h.s1.go hb, h.s2.go hb⟩
theorem XC.more {w : World} {M : List Nat} {r : RatR} {p q : Bool} {A B : Option Addr} {n c m d k : Nat} (h : XC w M r p q A n c B m d) (hk : w.heap.size ≤ k) : XC w (k :: M) r p q A n c B m d := ⟨h.hp, h.hq, h.s1.more hk, h.s2.more hk⟩
theorem XC.qc {w : World} {M : List Nat} {r : RatR} {p q : Bool} {A B : Option Addr} {n c m d : Nat} (h : XC w M r p q A n c B m d) (hr : ratOk r = true) : QC w M (decQ r) p q A n c B m d := by
 obtain ⟨x, hx, rfl⟩ := (ratOk_iff r).1 hr
 rw [decQ_enc]
 obtain ⟨h1, h2, h3, h4⟩ := h
 exact ⟨⟨h1, h3⟩, ⟨h2, h4⟩⟩
theorem decQ_ok {r : RatR} (hr : ratOk r = true) : (decQ r).ok := by
 obtain ⟨x, hx, rfl⟩ := (ratOk_iff r).1 hr
 rw [decQ_enc]; exact hx
theorem below_nat {a : Int} {l : Nat} (h : belowB a l = true) : ∃ k : Nat, a = k ∧ k < l := by
 have := of_decide_eq_true h
 exact ⟨a.toNat, by omega, by omega⟩
theorem min_pick (a b : Rt) : (if cmpQ a b ≤ 0 then a else b) = minT a b := by
 unfold minT
 rw [cmpQ_swap a b]
 by_cases h : cmpQ a b ≤ 0
 · rw [if_pos h, if_neg (by omega)]
 · rw [if_neg h, if_pos (by omega)]
theorem max_pick {a b : Rt} (ha : a.ok) (hb : b.ok) : (if cmpQ a b ≤ 0 then b else a) = maxT a b := by
 unfold maxT
 by_cases h : cmpQ a b < 0
 · rw [if_pos (by omega), if_pos h]
 · rw [if_neg h]
   by_cases h0 : cmpQ a b ≤ 0
   · rw [if_pos h0]
     refine (rt_ext ha hb ?_).symm
     have hz : cmpQ a b = 0 := by omega
     unfold cmpQ at hz
     repeat' split at hz
     all_goals omega
   · rw [if_neg h0]
section
variable {M : List Nat} {mb : Nat} {A B A1 A2 : Option Addr} {n c m l n1 c1 n2 c2 : Nat} {ins regs : List Rt} {op a b x3 x4 : Int} {r : RatR} {p q : Bool} {w : World}
set_option maxHeartbeats 4000000 in
theorem cop1_any (hM : Bel M w) (hm : Mach w M mb A n c B m l ins regs) (hx : XC w M r p q A1 n1 c1 A2 n2 c2) (hr : ratOk r = true) :
 Calls Tryz.prog 84 #[.pointer (some ⟨mb, 0, none⟩), .agg #[.int .i64 op, .int .i64 a, .int .i64 b, .int .i64 x3, .int .i64 x4, .bool p, .slice A1 n1 c1, .bool q, .slice A2 n2 c2]] w (QR w M (decQ r)) := by
 refine wid ?_
 obtain ⟨W1, hW1, F1⟩ := nam (((Fr.nil w).a w.heap.size [.int .i64 op, .int .i64 a, .int .i64 b, .int .i64 x3, .int .i64 x4, .bool p, .slice A1 n1 c1, .bool q, .slice A2 n2 c2] 55).a4 (w.heap.size + 1) 31)
 have FO := F1
 refine op1 FO ?_; intros
 have hm1 := (hm.more (k := w.heap.size + 1) (by omega)).go F1.bl
 have hx1 := (hx.more (k := w.heap.size + 1) (by omega)).go F1.bl
 have hM1 : Bel ((w.heap.size + 1) :: M) W1 := (hM.le F1.bl.size).cons (F1.ltn 1)
 have F := Hd F1
 have hsm := hm1.sr.small
 have hsi := hm1.si.small
 clear hm hx hM F1 FO
 have qc := hx1.qc hr
 obtain ⟨wF, hwF, t0, t1, t2, t3, hQ, bF⟩ := fin4 (M := M) (F.out.cel 1 0) (F.out.cel 1 1) (F.out.cel 1 2) (F.out.cel 1 3) (x := decQ r) qc.num.sl qc.den.sl qc.num.neg qc.den.neg F.out.bl (by omega)
 have HW := Hd7 hwF t0 t1 t2 t3 hQ bF
 clear hm1 hx1 hM1 qc hwF t0 t1 t2 t3 hQ bF hr
 refine ent Tryz.func84 rfl Tryz.ntmps84 ?_
 gi_wp2
 rw [HW.out.1]
 exact ⟨rfl, .tuple #[.agg #[.bool p, .slice A1 n1 c1, .bool q, .slice A2 n2 c2], .int .i64 0], by simp [results, go_sem, HW.out.2.1, HW.out.2.2.1, HW.out.2.2.2.1, HW.out.2.2.2.2.1], _, rfl, HW.out.2.2.2.2.2.1, HW.out.2.2.2.2.2.2⟩
set_option maxRecDepth 20000 in
set_option maxHeartbeats 4000000 in
theorem cop2_any (hM : Bel M w) (hm : Mach w M mb A n c B m l ins regs) (hx : XC w M r p q A1 n1 c1 A2 n2 c2) (ha : belowB a n = true) :
 Calls Tryz.prog 85 #[.pointer (some ⟨mb, 0, none⟩), .agg #[.int .i64 op, .int .i64 a, .int .i64 b, .int .i64 x3, .int .i64 x4, .bool p, .slice A1 n1 c1, .bool q, .slice A2 n2 c2]] w (QR w M (regQ ins a)) := by
 refine wid ?_
 obtain ⟨ka, rfl, hka⟩ := below_nat ha
 obtain ⟨W1, hW1, F1⟩ := nam (((Fr.nil w).a w.heap.size [.int .i64 op, .int .i64 (ka : Int), .int .i64 b, .int .i64 x3, .int .i64 x4, .bool p, .slice A1 n1 c1, .bool q, .slice A2 n2 c2] 55).a4 (w.heap.size + 1) 31)
 have FO := F1
 refine op1 FO ?_; intros
 have hm1 := (hm.more (k := w.heap.size + 1) (by omega)).go F1.bl
 have hx1 := (hx.more (k := w.heap.size + 1) (by omega)).go F1.bl
 have hM1 : Bel ((w.heap.size + 1) :: M) W1 := (hM.le F1.bl.size).cons (F1.ltn 1)
 have F := Hd F1
 have hsm := hm1.sr.small
 have hsi := hm1.si.small
 clear hm hx hM F1 FO
 obtain ⟨b9, o9, p9, q9, A9, n9, c9, B9, m9, d9, rfl, ⟨h0, h1, h2, h3⟩, qc9⟩ := hm1.si.at_ hka
 have F9 := F.out.drew
 refine op1 F9 ?_; intros
 have G9 := Hd2 F9 (show QC W1.drew _ _ _ _ _ _ _ _ _ _ from ⟨qc9.num.drew, qc9.den.drew⟩)
 have v0 := stays_drew h0
 have v1 := stays_drew h1
 have v2 := stays_drew h2
 have v3 := stays_drew h3
 have v8 := stays_drew hm1.c0
 have v9 := stays_drew (F.out.cel 0 1)
 clear hm1 hx1 hM1 qc9 h0 h1 h2 h3 F9
 refine ent Tryz.func85 rfl Tryz.ntmps85 ?_
 gi_wp2
 refine region_E_np [] 8 (by kernel_rfl) (by kernel_rfl) ?_
 refine E_rd 0 ?_; refine E_rd 1 ?_; refine E_rd 2 ?_; refine E_rd 3 ?_; refine E_rd 4 ?_; refine E_rd 5 ?_; refine E_rd 6 ?_; refine E_rd 7 ?_
 refine E_nl 2 ?_; refine tls fun K hK K' hK' => ?_; gi_wp2; refine tls fun K hK K' hK' => ?_; gi_wp2; refine tail_nil _ ?_; simp only [npost]; gi_wp2
 have hx := F.out.nth 1
 obtain ⟨wF, hwF, t0, t1, t2, t3, hQ, bF⟩ := fin4 (V := W1.drew) (M := M) (hx 0 _ rfl) (hx 1 _ rfl) (hx 2 _ rfl) (hx 3 _ rfl) (x := regQ ins ka) G9.out.2.num.sl G9.out.2.den.sl G9.out.2.num.neg G9.out.2.den.neg G9.out.1.bl (by omega)
 have hwF2 : World.drew ((((W1.setCell ⟨w.heap.size + 1, 0, none⟩ (.bool p9)).setCell ⟨w.heap.size + 1, 1, none⟩ (.slice A9 n9 c9)).setCell ⟨w.heap.size + 1, 2, none⟩ (.bool q9)).setCell ⟨w.heap.size + 1, 3, none⟩ (.slice B9 m9 d9)) = wF := hwF
 rw [hwF2]
 exact ⟨rfl, .tuple #[.agg #[.bool p9, .slice A9 n9 c9, .bool q9, .slice B9 m9 d9], .int .i64 0], by simp [results, go_sem, t0, t1, t2, t3], _, rfl, hQ, bF⟩
set_option maxRecDepth 20000 in
set_option maxHeartbeats 4000000 in
theorem cop3_any (hM : Bel M w) (hm : Mach w M mb A n c B m l ins regs) (hx : XC w M r p q A1 n1 c1 A2 n2 c2) (ha : belowB a m = true) (hb : belowB b m = true) (oa : (regQ regs a).ok) (ob : (regQ regs b).ok) (hf : Fine (regQ regs a) (regQ regs b)) :
 Calls Tryz.prog 86 #[.pointer (some ⟨mb, 0, none⟩), .agg #[.int .i64 op, .int .i64 a, .int .i64 b, .int .i64 x3, .int .i64 x4, .bool p, .slice A1 n1 c1, .bool q, .slice A2 n2 c2]] w (QR w M (addQ (regQ regs a) (regQ regs b))) := by
 refine wid ?_
 obtain ⟨ka, rfl, hka⟩ := below_nat ha
 obtain ⟨kb, rfl, hkb⟩ := below_nat hb
 obtain ⟨W1, hW1, F1⟩ := nam (((Fr.nil w).a w.heap.size [.int .i64 op, .int .i64 (ka : Int), .int .i64 (kb : Int), .int .i64 x3, .int .i64 x4, .bool p, .slice A1 n1 c1, .bool q, .slice A2 n2 c2] 55).a4 (w.heap.size + 1) 31)
 have FO := F1
 refine op1 FO ?_; intros
 have hm1 := (hm.more (k := w.heap.size + 1) (by omega)).go F1.bl
 have hx1 := (hx.more (k := w.heap.size + 1) (by omega)).go F1.bl
 have hM1 : Bel ((w.heap.size + 1) :: M) W1 := (hM.le F1.bl.size).cons (F1.ltn 1)
 have F := Hd F1
 have hsm := hm1.sr.small
 have hsi := hm1.si.small
 clear hm hx hM F1 FO
 obtain ⟨b3, o3, p3, q3, A3, n3, c3, B3, m3, d3, rfl, ⟨h0, h1, h2, h3⟩, qc3⟩ := hm1.sr.at_ hka
 obtain ⟨b4, o4, p4, q4, A4, n4, c4, B4, m4, d4, e0, ⟨k0, k1, k2, k3⟩, qc4⟩ := hm1.sr.at_ hkb
 obtain ⟨rfl, rfl⟩ : b3 = b4 ∧ o3 = o4 := by simpa using e0
 have X := Hd6 (show QC W1.drew _ _ _ _ _ _ _ _ _ _ from ⟨qc3.num.drew, qc3.den.drew⟩) (show QC W1.drew _ _ _ _ _ _ _ _ _ _ from ⟨qc4.num.drew, qc4.den.drew⟩) hM1 oa ob hf
 have v0 := stays_drew h0
 have v1 := stays_drew h1
 have v2 := stays_drew h2
 have v3 := stays_drew h3
 have v4 := stays_drew k0
 have v5 := stays_drew k1
 have v6 := stays_drew k2
 have v7 := stays_drew k3
 have v8 := stays_drew hm1.c1
 have hins := F.out.nth 0
 have v9 := stays_drew (hins 1 _ rfl)
 have v10 := stays_drew (hins 2 _ rfl)
 clear hm1 hx1 hM1 qc3 qc4 h0 h1 h2 h3 k0 k1 k2 k3 e0 oa ob hf hins ha hb
 refine ent Tryz.func86 rfl Tryz.ntmps86 ?_
 gi_wp2
 refine region_E_np [] 19 (by kernel_rfl) (by kernel_rfl) ?_
 refine E_rd 0 ?_; refine E_rd 1 ?_; refine E_rd 2 ?_; refine E_rd 3 ?_; refine E_rd 4 ?_; refine E_rd 5 ?_; refine E_rd 6 ?_; refine E_rd 7 ?_; refine E_rd 8 ?_; refine E_rd 9 ?_; refine E_rd 10 ?_; refine E_rd 11 ?_; refine E_rd 12 ?_; refine E_rd 13 ?_; refine E_rd 14 ?_; refine E_rd 15 ?_
 refine E_al 16 fun K hK => ?_; gi_wp2
 refine Cm (qAdd_any (M := (w.heap.size + 1) :: M) (a := regQ regs ka) (b := regQ regs kb) (X.out.2.2.1.le (w' := W1.drew) (Nat.le_refl _)) X.out.1.qw X.out.2.1.qw X.out.2.2.2.1 X.out.2.2.2.2.1 X.out.2.2.2.2.2) ?_
 rintro e w9 ⟨u9, rfl, z9, hb9⟩
 obtain ⟨p9, q9, A9, n9, c9, B9, m9, d9, rfl, qc9⟩ := QC.of z9
 have F9 := F.out.drew.go hb9
 refine op1 F9 ?_; intros
 have G9 := Hd2 F9 qc9
 clear z9 qc9 F9
 refine hK _ _ ⟨?_, ?_⟩; clear hK K
 · exact Keeps.of_below hb9 []
 refine lit ?_
 clear hb9
 refine E_rd 17 ?_; refine E_rd 18 ?_
 refine E_nl 2 ?_; refine tls fun K hK K' hK' => ?_; gi_wp2; refine tls fun K hK K' hK' => ?_; gi_wp2; refine tail_nil _ ?_; simp only [npost]; gi_wp2
 have hx := G9.out.1.nth 1
 obtain ⟨wF, hwF, t0, t1, t2, t3, hQ, bF⟩ := fin4 (M := M) (hx 0 _ rfl) (hx 1 _ rfl) (hx 2 _ rfl) (hx 3 _ rfl) (x := addQ (regQ regs ka) (regQ regs kb)) G9.out.2.num.sl G9.out.2.den.sl G9.out.2.num.neg G9.out.2.den.neg G9.out.1.bl (by omega)
 rw [hwF]
 refine ⟨rfl, .tuple #[.agg #[.bool p9, .slice A9 n9 c9, .bool q9, .slice B9 m9 d9], .int .i64 0], by simp [results, go_sem, t0, t1, t2, t3], _, rfl, hQ, bF⟩
set_option maxRecDepth 20000 in
set_option maxHeartbeats 4000000 in
theorem cop4_any (hM : Bel M w) (hm : Mach w M mb A n c B m l ins regs) (hx : XC w M r p q A1 n1 c1 A2 n2 c2) (ha : belowB a m = true) (hb : belowB b m = true) (oa : (regQ regs a).ok) (ob : (regQ regs b).ok) (hf : Fine (regQ regs a) (regQ regs b)) :
 Calls Tryz.prog 87 #[.pointer (some ⟨mb, 0, none⟩), .agg #[.int .i64 op, .int .i64 a, .int .i64 b, .int .i64 x3, .int .i64 x4, .bool p, .slice A1 n1 c1, .bool q, .slice A2 n2 c2]] w (QR w M (subQ (regQ regs a) (regQ regs b))) := by
 refine wid ?_
 obtain ⟨ka, rfl, hka⟩ := below_nat ha
 obtain ⟨kb, rfl, hkb⟩ := below_nat hb
 obtain ⟨W1, hW1, F1⟩ := nam (((Fr.nil w).a w.heap.size [.int .i64 op, .int .i64 (ka : Int), .int .i64 (kb : Int), .int .i64 x3, .int .i64 x4, .bool p, .slice A1 n1 c1, .bool q, .slice A2 n2 c2] 55).a4 (w.heap.size + 1) 31)
 have FO := F1
 refine op1 FO ?_; intros
 have hm1 := (hm.more (k := w.heap.size + 1) (by omega)).go F1.bl
 have hx1 := (hx.more (k := w.heap.size + 1) (by omega)).go F1.bl
 have hM1 : Bel ((w.heap.size + 1) :: M) W1 := (hM.le F1.bl.size).cons (F1.ltn 1)
 have F := Hd F1
 have hsm := hm1.sr.small
 have hsi := hm1.si.small
 clear hm hx hM F1 FO
 obtain ⟨b3, o3, p3, q3, A3, n3, c3, B3, m3, d3, rfl, ⟨h0, h1, h2, h3⟩, qc3⟩ := hm1.sr.at_ hka
 obtain ⟨b4, o4, p4, q4, A4, n4, c4, B4, m4, d4, e0, ⟨k0, k1, k2, k3⟩, qc4⟩ := hm1.sr.at_ hkb
 obtain ⟨rfl, rfl⟩ : b3 = b4 ∧ o3 = o4 := by simpa using e0
 have X := Hd6 (show QC W1.drew _ _ _ _ _ _ _ _ _ _ from ⟨qc3.num.drew, qc3.den.drew⟩) (show QC W1.drew _ _ _ _ _ _ _ _ _ _ from ⟨qc4.num.drew, qc4.den.drew⟩) hM1 oa ob hf
 have v0 := stays_drew h0
 have v1 := stays_drew h1
 have v2 := stays_drew h2
 have v3 := stays_drew h3
 have v4 := stays_drew k0
 have v5 := stays_drew k1
 have v6 := stays_drew k2
 have v7 := stays_drew k3
 have v8 := stays_drew hm1.c1
 have hins := F.out.nth 0
 have v9 := stays_drew (hins 1 _ rfl)
 have v10 := stays_drew (hins 2 _ rfl)
 clear hm1 hx1 hM1 qc3 qc4 h0 h1 h2 h3 k0 k1 k2 k3 e0 oa ob hf hins ha hb
 refine ent Tryz.func87 rfl Tryz.ntmps87 ?_
 gi_wp2
 refine region_E_np [] 19 (by kernel_rfl) (by kernel_rfl) ?_
 refine E_rd 0 ?_; refine E_rd 1 ?_; refine E_rd 2 ?_; refine E_rd 3 ?_; refine E_rd 4 ?_; refine E_rd 5 ?_; refine E_rd 6 ?_; refine E_rd 7 ?_; refine E_rd 8 ?_; refine E_rd 9 ?_; refine E_rd 10 ?_; refine E_rd 11 ?_; refine E_rd 12 ?_; refine E_rd 13 ?_; refine E_rd 14 ?_; refine E_rd 15 ?_
 refine E_al 16 fun K hK => ?_; gi_wp2
 refine Cm (qSub_any (M := (w.heap.size + 1) :: M) (a := regQ regs ka) (b := regQ regs kb) (X.out.2.2.1.le (w' := W1.drew) (Nat.le_refl _)) X.out.1.qw X.out.2.1.qw X.out.2.2.2.1 X.out.2.2.2.2.1 X.out.2.2.2.2.2) ?_
 rintro e w9 ⟨u9, rfl, z9, hb9⟩
 obtain ⟨p9, q9, A9, n9, c9, B9, m9, d9, rfl, qc9⟩ := QC.of z9
 have F9 := F.out.drew.go hb9
 refine op1 F9 ?_; intros
 have G9 := Hd2 F9 qc9
 clear z9 qc9 F9
 refine hK _ _ ⟨?_, ?_⟩; clear hK K
 · exact Keeps.of_below hb9 []
 refine lit ?_
 clear hb9
 refine E_rd 17 ?_; refine E_rd 18 ?_
 refine E_nl 2 ?_; refine tls fun K hK K' hK' => ?_; gi_wp2; refine tls fun K hK K' hK' => ?_; gi_wp2; refine tail_nil _ ?_; simp only [npost]; gi_wp2
 have hx := G9.out.1.nth 1
 obtain ⟨wF, hwF, t0, t1, t2, t3, hQ, bF⟩ := fin4 (M := M) (hx 0 _ rfl) (hx 1 _ rfl) (hx 2 _ rfl) (hx 3 _ rfl) (x := subQ (regQ regs ka) (regQ regs kb)) G9.out.2.num.sl G9.out.2.den.sl G9.out.2.num.neg G9.out.2.den.neg G9.out.1.bl (by omega)
 rw [hwF]
 refine ⟨rfl, .tuple #[.agg #[.bool p9, .slice A9 n9 c9, .bool q9, .slice B9 m9 d9], .int .i64 0], by simp [results, go_sem, t0, t1, t2, t3], _, rfl, hQ, bF⟩
set_option maxRecDepth 20000 in
set_option maxHeartbeats 4000000 in
theorem cop5_any (hM : Bel M w) (hm : Mach w M mb A n c B m l ins regs) (hx : XC w M r p q A1 n1 c1 A2 n2 c2) (hr : ratOk r = true) (ha : belowB a m = true) (oa : (regQ regs a).ok) (hf : Fine (regQ regs a) (decQ r)) :
 Calls Tryz.prog 88 #[.pointer (some ⟨mb, 0, none⟩), .agg #[.int .i64 op, .int .i64 a, .int .i64 b, .int .i64 x3, .int .i64 x4, .bool p, .slice A1 n1 c1, .bool q, .slice A2 n2 c2]] w (QR w M (mulQ (regQ regs a) (decQ r))) := by
 refine wid ?_
 obtain ⟨ka, rfl, hka⟩ := below_nat ha
 obtain ⟨W1, hW1, F1⟩ := nam (((Fr.nil w).a w.heap.size [.int .i64 op, .int .i64 (ka : Int), .int .i64 b, .int .i64 x3, .int .i64 x4, .bool p, .slice A1 n1 c1, .bool q, .slice A2 n2 c2] 55).a4 (w.heap.size + 1) 31)
 have FO := F1
 refine op1 FO ?_; intros
 have hm1 := (hm.more (k := w.heap.size + 1) (by omega)).go F1.bl
 have hx1 := (hx.more (k := w.heap.size + 1) (by omega)).go F1.bl
 have hM1 : Bel ((w.heap.size + 1) :: M) W1 := (hM.le F1.bl.size).cons (F1.ltn 1)
 have F := Hd F1
 have hsm := hm1.sr.small
 have hsi := hm1.si.small
 clear hm hx hM F1 FO
 obtain ⟨b3, o3, p3, q3, A3, n3, c3, B3, m3, d3, rfl, ⟨h0, h1, h2, h3⟩, qc3⟩ := hm1.sr.at_ hka
 have qc4 := hx1.qc hr
 have X := Hd6 (show QC W1.drew _ _ _ _ _ _ _ _ _ _ from ⟨qc3.num.drew, qc3.den.drew⟩) (show QC W1.drew _ _ _ _ _ _ _ _ _ _ from ⟨qc4.num.drew, qc4.den.drew⟩) hM1 oa (decQ_ok hr) hf
 have v0 := stays_drew h0
 have v1 := stays_drew h1
 have v2 := stays_drew h2
 have v3 := stays_drew h3
 have v8 := stays_drew hm1.c1
 have hins := F.out.nth 0
 have v9 := stays_drew (hins 1 _ rfl)
 have v10 := stays_drew (hins 5 _ rfl)
 have v11 := stays_drew (hins 6 _ rfl)
 have v12 := stays_drew (hins 7 _ rfl)
 have v13 := stays_drew (hins 8 _ rfl)
 clear hm1 hx1 hM1 qc3 qc4 h0 h1 h2 h3 oa hf hins ha hr
 refine ent Tryz.func88 rfl Tryz.ntmps88 ?_
 gi_wp2
 refine region_E_np [] 13 (by kernel_rfl) (by kernel_rfl) ?_
 refine E_rd 0 ?_; refine E_rd 1 ?_; refine E_rd 2 ?_; refine E_rd 3 ?_; refine E_rd 4 ?_; refine E_rd 5 ?_; refine E_rd 6 ?_; refine E_rd 7 ?_; refine E_rd 8 ?_; refine E_rd 9 ?_
 refine E_al 10 fun K hK => ?_; gi_wp2
 refine Cm (qMul_any (M := (w.heap.size + 1) :: M) (a := regQ regs ka) (b := decQ r) (X.out.2.2.1.le (w' := W1.drew) (Nat.le_refl _)) X.out.1.qw X.out.2.1.qw X.out.2.2.2.1 X.out.2.2.2.2.1 X.out.2.2.2.2.2) ?_
 rintro e w9 ⟨u9, rfl, z9, hb9⟩
 obtain ⟨p9, q9, A9, n9, c9, B9, m9, d9, rfl, qc9⟩ := QC.of z9
 have F9 := F.out.drew.go hb9
 refine op1 F9 ?_; intros
 have G9 := Hd2 F9 qc9
 clear z9 qc9 F9
 refine hK _ _ ⟨?_, ?_⟩; clear hK K
 · exact Keeps.of_below hb9 []
 refine lit ?_
 clear hb9
 refine E_rd 11 ?_; refine E_rd 12 ?_
 refine E_nl 2 ?_; refine tls fun K hK K' hK' => ?_; gi_wp2; refine tls fun K hK K' hK' => ?_; gi_wp2; refine tail_nil _ ?_; simp only [npost]; gi_wp2
 have hx := G9.out.1.nth 1
 obtain ⟨wF, hwF, t0, t1, t2, t3, hQ, bF⟩ := fin4 (M := M) (hx 0 _ rfl) (hx 1 _ rfl) (hx 2 _ rfl) (hx 3 _ rfl) (x := mulQ (regQ regs ka) (decQ r)) G9.out.2.num.sl G9.out.2.den.sl G9.out.2.num.neg G9.out.2.den.neg G9.out.1.bl (by omega)
 rw [hwF]
 refine ⟨rfl, .tuple #[.agg #[.bool p9, .slice A9 n9 c9, .bool q9, .slice B9 m9 d9], .int .i64 0], by simp [results, go_sem, t0, t1, t2, t3], _, rfl, hQ, bF⟩
set_option maxRecDepth 20000 in
set_option maxHeartbeats 4000000 in
theorem cop6_any (hM : Bel M w) (hm : Mach w M mb A n c B m l ins regs) (hx : XC w M r p q A1 n1 c1 A2 n2 c2) (ha : belowB a m = true) (hb : belowB b m = true) (oa : (regQ regs a).ok) (ob : (regQ regs b).ok) (hf : Fine (regQ regs a) (regQ regs b)) :
 Calls Tryz.prog 89 #[.pointer (some ⟨mb, 0, none⟩), .agg #[.int .i64 op, .int .i64 a, .int .i64 b, .int .i64 x3, .int .i64 x4, .bool p, .slice A1 n1 c1, .bool q, .slice A2 n2 c2]] w (QR w M (minT (regQ regs a) (regQ regs b))) := by
 refine wid ?_
 first
  | rw [← min_pick]
  | rw [← min_pick (regQ regs a) (regQ regs b)]
 obtain ⟨ka, rfl, hka⟩ := below_nat ha
 obtain ⟨kb, rfl, hkb⟩ := below_nat hb
 obtain ⟨W1, hW1, F1⟩ := nam (((Fr.nil w).a w.heap.size [.int .i64 op, .int .i64 (ka : Int), .int .i64 (kb : Int), .int .i64 x3, .int .i64 x4, .bool p, .slice A1 n1 c1, .bool q, .slice A2 n2 c2] 55).a4 (w.heap.size + 1) 31)
 have FO := F1
 refine op1 FO ?_; intros
 have hm1 := (hm.more (k := w.heap.size + 1) (by omega)).go F1.bl
 have hx1 := (hx.more (k := w.heap.size + 1) (by omega)).go F1.bl
 have hM1 : Bel ((w.heap.size + 1) :: M) W1 := (hM.le F1.bl.size).cons (F1.ltn 1)
 have F := Hd F1
 have hsm := hm1.sr.small
 have hsi := hm1.si.small
 clear hm hx hM F1 FO
 have X := Hd5 hm1 hM1 oa ob hf
 obtain ⟨R, hR⟩ : ∃ R, (if cmpQ (regQ regs (ka : Int)) (regQ regs (kb : Int)) ≤ 0 then regQ regs (ka : Int) else regQ regs (kb : Int)) = R := ⟨_, rfl⟩
 rw [hR]
 have HR := Hd hR
 clear hm1 hx1 hM1 oa ob hf ha hb hR
 refine ent Tryz.func89 rfl Tryz.ntmps89 ?_
 gi_wp2_with (refine Cl 90 (cpick_any (M := (w.heap.size + 1) :: M) (a := ka) (b := kb) (y := ka) (z := kb) X.out.2.1 X.out.1 hka hkb hka hkb X.out.2.2.1 X.out.2.2.2.1 X.out.2.2.2.2) ?_
              rintro e w9 ⟨u9, rfl, z9, hb9⟩; obtain ⟨p9, q9, A9, n9, c9, B9, m9, d9, rfl, qc9⟩ := QC.of z9; have F9 := F.out.go hb9; refine op1 F9 ?_; intros; have G9 := Hd2 F9 qc9
              clear z9 qc9 F9 hb9)
 rw [HR.out] at G9
 have hx := G9.out.1.nth 1
 obtain ⟨wF, hwF, t0, t1, t2, t3, hQ, bF⟩ := fin4 (M := M) (hx 0 _ rfl) (hx 1 _ rfl) (hx 2 _ rfl) (hx 3 _ rfl) (x := R) G9.out.2.num.sl G9.out.2.den.sl G9.out.2.num.neg G9.out.2.den.neg G9.out.1.bl (by omega)
 rw [hwF]
 refine ⟨rfl, .tuple #[.agg #[.bool p9, .slice A9 n9 c9, .bool q9, .slice B9 m9 d9], .int .i64 0], by simp [results, go_sem, t0, t1, t2, t3], _, rfl, hQ, bF⟩
set_option maxRecDepth 20000 in
set_option maxHeartbeats 4000000 in
theorem cop7_any (hM : Bel M w) (hm : Mach w M mb A n c B m l ins regs) (hx : XC w M r p q A1 n1 c1 A2 n2 c2) (ha : belowB a m = true) (hb : belowB b m = true) (oa : (regQ regs a).ok) (ob : (regQ regs b).ok) (hf : Fine (regQ regs a) (regQ regs b)) :
 Calls Tryz.prog 91 #[.pointer (some ⟨mb, 0, none⟩), .agg #[.int .i64 op, .int .i64 a, .int .i64 b, .int .i64 x3, .int .i64 x4, .bool p, .slice A1 n1 c1, .bool q, .slice A2 n2 c2]] w (QR w M (maxT (regQ regs a) (regQ regs b))) := by
 refine wid ?_
 first
  | rw [← max_pick oa ob]
  | rw [← max_pick oa ob (regQ regs a) (regQ regs b)]
 obtain ⟨ka, rfl, hka⟩ := below_nat ha
 obtain ⟨kb, rfl, hkb⟩ := below_nat hb
 obtain ⟨W1, hW1, F1⟩ := nam (((Fr.nil w).a w.heap.size [.int .i64 op, .int .i64 (ka : Int), .int .i64 (kb : Int), .int .i64 x3, .int .i64 x4, .bool p, .slice A1 n1 c1, .bool q, .slice A2 n2 c2] 55).a4 (w.heap.size + 1) 31)
 have FO := F1
 refine op1 FO ?_; intros
 have hm1 := (hm.more (k := w.heap.size + 1) (by omega)).go F1.bl
 have hx1 := (hx.more (k := w.heap.size + 1) (by omega)).go F1.bl
 have hM1 : Bel ((w.heap.size + 1) :: M) W1 := (hM.le F1.bl.size).cons (F1.ltn 1)
 have F := Hd F1
 have hsm := hm1.sr.small
 have hsi := hm1.si.small
 clear hm hx hM F1 FO
 have X := Hd5 hm1 hM1 oa ob hf
 obtain ⟨R, hR⟩ : ∃ R, (if cmpQ (regQ regs (ka : Int)) (regQ regs (kb : Int)) ≤ 0 then regQ regs (kb : Int) else regQ regs (ka : Int)) = R := ⟨_, rfl⟩
 rw [hR]
 have HR := Hd hR
 clear hm1 hx1 hM1 oa ob hf ha hb hR
 refine ent Tryz.func91 rfl Tryz.ntmps91 ?_
 gi_wp2_with (refine Cl 90 (cpick_any (M := (w.heap.size + 1) :: M) (a := ka) (b := kb) (y := kb) (z := ka) X.out.2.1 X.out.1 hka hkb hkb hka X.out.2.2.1 X.out.2.2.2.1 X.out.2.2.2.2) ?_
              rintro e w9 ⟨u9, rfl, z9, hb9⟩; obtain ⟨p9, q9, A9, n9, c9, B9, m9, d9, rfl, qc9⟩ := QC.of z9; have F9 := F.out.go hb9; refine op1 F9 ?_; intros; have G9 := Hd2 F9 qc9
              clear z9 qc9 F9 hb9)
 rw [HR.out] at G9
 have hx := G9.out.1.nth 1
 obtain ⟨wF, hwF, t0, t1, t2, t3, hQ, bF⟩ := fin4 (M := M) (hx 0 _ rfl) (hx 1 _ rfl) (hx 2 _ rfl) (hx 3 _ rfl) (x := R) G9.out.2.num.sl G9.out.2.den.sl G9.out.2.num.neg G9.out.2.den.neg G9.out.1.bl (by omega)
 rw [hwF]
 refine ⟨rfl, .tuple #[.agg #[.bool p9, .slice A9 n9 c9, .bool q9, .slice B9 m9 d9], .int .i64 0], by simp [results, go_sem, t0, t1, t2, t3], _, rfl, hQ, bF⟩
set_option maxRecDepth 20000 in
set_option maxHeartbeats 4000000 in
theorem cop8_any (hM : Bel M w) (hm : Mach w M mb A n c B m l ins regs) (hx : XC w M r p q A1 n1 c1 A2 n2 c2) (ha : belowB a m = true) (hb : belowB b m = true) (hy : belowB x3 m = true) (hz : belowB x4 m = true) (oa : (regQ regs a).ok) (ob : (regQ regs b).ok) (hf : Fine (regQ regs a) (regQ regs b)) :
 Calls Tryz.prog 92 #[.pointer (some ⟨mb, 0, none⟩), .agg #[.int .i64 op, .int .i64 a, .int .i64 b, .int .i64 x3, .int .i64 x4, .bool p, .slice A1 n1 c1, .bool q, .slice A2 n2 c2]] w (QR w M (if cmpQ (regQ regs a) (regQ regs b) ≤ 0 then regQ regs x3 else regQ regs x4)) := by
 refine wid ?_
 obtain ⟨ka, rfl, hka⟩ := below_nat ha
 obtain ⟨kb, rfl, hkb⟩ := below_nat hb
 obtain ⟨ky, rfl, hky⟩ := below_nat hy
 obtain ⟨kz, rfl, hkz⟩ := below_nat hz
 obtain ⟨W1, hW1, F1⟩ := nam (((Fr.nil w).a w.heap.size [.int .i64 op, .int .i64 (ka : Int), .int .i64 (kb : Int), .int .i64 (ky : Int), .int .i64 (kz : Int), .bool p, .slice A1 n1 c1, .bool q, .slice A2 n2 c2] 55).a4 (w.heap.size + 1) 31)
 have FO := F1
 refine op1 FO ?_; intros
 have hm1 := (hm.more (k := w.heap.size + 1) (by omega)).go F1.bl
 have hx1 := (hx.more (k := w.heap.size + 1) (by omega)).go F1.bl
 have hM1 : Bel ((w.heap.size + 1) :: M) W1 := (hM.le F1.bl.size).cons (F1.ltn 1)
 have F := Hd F1
 have hsm := hm1.sr.small
 have hsi := hm1.si.small
 clear hm hx hM F1 FO
 have X := Hd5 hm1 hM1 oa ob hf
 obtain ⟨R, hR⟩ : ∃ R, (if cmpQ (regQ regs (ka : Int)) (regQ regs (kb : Int)) ≤ 0 then regQ regs (ky : Int) else regQ regs (kz : Int)) = R := ⟨_, rfl⟩
 rw [hR]
 have HR := Hd hR
 clear hm1 hx1 hM1 oa ob hf ha hb hR hy hz
 refine ent Tryz.func92 rfl Tryz.ntmps92 ?_
 gi_wp2_with (refine Cl 90 (cpick_any (M := (w.heap.size + 1) :: M) (a := ka) (b := kb) (y := ky) (z := kz) X.out.2.1 X.out.1 hka hkb hky hkz X.out.2.2.1 X.out.2.2.2.1 X.out.2.2.2.2) ?_
              rintro e w9 ⟨u9, rfl, z9, hb9⟩; obtain ⟨p9, q9, A9, n9, c9, B9, m9, d9, rfl, qc9⟩ := QC.of z9; have F9 := F.out.go hb9; refine op1 F9 ?_; intros; have G9 := Hd2 F9 qc9
              clear z9 qc9 F9 hb9)
 rw [HR.out] at G9
 have hx := G9.out.1.nth 1
 obtain ⟨wF, hwF, t0, t1, t2, t3, hQ, bF⟩ := fin4 (M := M) (hx 0 _ rfl) (hx 1 _ rfl) (hx 2 _ rfl) (hx 3 _ rfl) (x := R) G9.out.2.num.sl G9.out.2.den.sl G9.out.2.num.neg G9.out.2.den.neg G9.out.1.bl (by omega)
 rw [hwF]
 refine ⟨rfl, .tuple #[.agg #[.bool p9, .slice A9 n9 c9, .bool q9, .slice B9 m9 d9], .int .i64 0], by simp [results, go_sem, t0, t1, t2, t3], _, rfl, hQ, bF⟩
end
end Go.Proofs.YtboapndkopabiaaGreat
