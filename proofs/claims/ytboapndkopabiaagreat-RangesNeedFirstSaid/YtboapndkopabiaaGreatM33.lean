/- Lemmas and walks (Spn4 Stp2 Out0). No statement is proved here. -/
import Derived.Test.YtboapndkopabiaaGreatM32
import Derived.Test.YtboapndkopabiaaGreatM31
set_option linter.unusedVariables false
set_option linter.unusedSimpArgs false
namespace Go.Proofs.YtboapndkopabiaaGreat
namespace U
open Go.RowKit Go.Shelf
attribute [local go_sem] Oper.semAt_some
section
variable {M : List Nat} {A B A1 A2 : Option Addr} {n c m l n1 c1 n2 c2 : Nat} {ins regs : List Rg} {op a b x3 x4 : Int} {r : RatR} {p q : Bool} {w : World}
set_option maxRecDepth 20000 in
set_option maxHeartbeats 32000000 in
theorem schoose_1 {ka kb ky kz : Nat} (hM : Bel M w) (hx : XC w M r p q A1 n1 c1 A2 n2 c2) (hl : SlG w M B m l regs) (hka : ka < m) (hkb : kb < m) (hky : ky < m) (hkz : kz < m) (oa : OkG (regG regs ka)) (ob : OkG (regG regs kb)) (oy : OkG (regG regs ky)) (oz : OkG (regG regs kz)) (g1 : ¬ cmpQ (regG regs kb).1 (regG regs ka).2 < 0) :
 Calls Tryz.prog 81 #[.agg #[.int .i64 op, .int .i64 (ka : Int), .int .i64 (kb : Int), .int .i64 (ky : Int), .int .i64 (kz : Int), .bool p, .slice A1 n1 c1, .bool q, .slice A2 n2 c2], .slice B m l] w (GR w M (selG (regG regs ka) (regG regs kb) (regG regs ky) (regG regs kz))) := by
 refine wid ?_
 have HE := Hd (show selG (regG regs ka) (regG regs kb) (regG regs ky) (regG regs kz) = regG regs ky by unfold selG; rw [if_pos g1])
 obtain ⟨W1, hW1, F1⟩ := nam (((Fr.nil w).a w.heap.size [.int .i64 op, .int .i64 (ka : Int), .int .i64 (kb : Int), .int .i64 (ky : Int), .int .i64 (kz : Int), .bool p, .slice A1 n1 c1, .bool q, .slice A2 n2 c2] 55).a8 (w.heap.size + 1) 33)
 have FO := F1
 refine op1 FO ?_; intros
 have hx1 := (hx.more (k := w.heap.size + 1) (by omega)).go F1.bl
 have hM1 : Bel ((w.heap.size + 1) :: M) W1 := (hM.le F1.bl.size).cons (F1.ltn 1)
 have F := Hd F1
 have hins := F1.nth 0
 have hz := F1.nth 1
 clear hx hM F1 FO
 have hl1 : SlG W1 ((w.heap.size + 1) :: M) B m l regs := (hl.more (b := w.heap.size + 1) (by omega)).go F.out.bl
 have hsm := hl1.small
 clear hl
 obtain ⟨b3, o3, p3, q3, A3, n3, c3, B3, m3, d3, p4, q4, A4, n4, c4, B4, m4, d4, rfl, ⟨ha0, ha1, ha2, ha3⟩, ⟨ha4, ha5, ha6, ha7⟩, alo, ahi⟩ := hl1.at_ hka
 obtain ⟨b5, o5, p5, q5, A5, n5, c5, B5, m5, d5, p6, q6, A6, n6, c6, B6, m6, d6, e5, ⟨hb0, hb1, hb2, hb3⟩, ⟨hb4, hb5, hb6, hb7⟩, blo, bhi⟩ := hl1.at_ hkb
 obtain ⟨rfl, rfl⟩ : b3 = b5 ∧ o3 = o5 := by simpa using e5
 obtain ⟨b7, o7, p7, q7, A7, n7, c7, B7, m7, d7, p8, q8, A8, n8, c8, B8, m8, d8, e7, ⟨hy0, hy1, hy2, hy3⟩, ⟨hy4, hy5, hy6, hy7⟩, ylo, yhi⟩ := hl1.at_ hky
 obtain ⟨rfl, rfl⟩ : b3 = b7 ∧ o3 = o7 := by simpa using e7
 obtain ⟨b9, o9, p9, q9, A9, n9, c9, B9, m9, d9, p10, q10, A10, n10, c10, B10, m10, d10, e9, ⟨hz0, hz1, hz2, hz3⟩, ⟨hz4, hz5, hz6, hz7⟩, zlo, zhi⟩ := hl1.at_ hkz
 obtain ⟨rfl, rfl⟩ : b3 = b9 ∧ o3 = o9 := by simpa using e9
 have X := Hd (And.intro (And.intro alo ahi) (And.intro (And.intro blo bhi) (And.intro (And.intro ylo yhi) (And.intro (And.intro zlo zhi) (And.intro (show C8 W1 b3 (o3 + ka * 8) _ _ _ _ _ _ _ _ from ⟨ha0, ha1, ha2, ha3, ha4, ha5, ha6, ha7⟩) (And.intro (show C8 W1 b3 (o3 + kb * 8) _ _ _ _ _ _ _ _ from ⟨hb0, hb1, hb2, hb3, hb4, hb5, hb6, hb7⟩) (And.intro (show C8 W1 b3 (o3 + ky * 8) _ _ _ _ _ _ _ _ from ⟨hy0, hy1, hy2, hy3, hy4, hy5, hy6, hy7⟩) (And.intro (show C8 W1 b3 (o3 + kz * 8) _ _ _ _ _ _ _ _ from ⟨hz0, hz1, hz2, hz3, hz4, hz5, hz6, hz7⟩) hM1))))))))
 have HO := Hd4 oa ob oy oz
 obtain ⟨cc, hcc⟩ : ∃ cc, cmpQ (regG regs kb).1 (regG regs ka).2 = cc := ⟨_, rfl⟩
 rw [hcc] at g1
 have HC := Hd hcc
 obtain ⟨sb1, hsb1⟩ : ∃ s, W1.heap.size = s := ⟨_, rfl⟩
 have Hsb1 := Hd hsb1
 clear hsb1
 have v0 := stays_s Hsb1.out hb0
 have v1 := stays_s Hsb1.out hb1
 have v2 := stays_s Hsb1.out hb2
 have v3 := stays_s Hsb1.out hb3
 have x0' := stays_s Hsb1.out ha4
 have x1' := stays_s Hsb1.out ha5
 have x2' := stays_s Hsb1.out ha6
 have x3' := stays_s Hsb1.out ha7
 have v8 := stays_s Hsb1.out (hins 1 _ rfl)
 have v9 := stays_s Hsb1.out (hins 2 _ rfl)
 clear hcc hx1 hM1 alo ahi blo bhi ylo yhi zlo zhi hins hz hl1 oa ob oy oz e5 e7 e9 ha0 ha1 ha2 ha3 ha4 ha5 ha6 ha7 hb0 hb1 hb2 hb3 hb4 hb5 hb6 hb7 hy0 hy1 hy2 hy3 hy4 hy5 hy6 hy7 hz0 hz1 hz2 hz3 hz4 hz5 hz6 hz7
 have hc : 0 ≤ cc := by omega
 clear g1
 refine ent Tryz.func81 rfl Tryz.ntmps81 ?_
 gi_wp2
 refine region_E_np sb1 18 (by kernel_rfl) (by kernel_rfl) ?_
 refine E_rd 0 ?_; refine E_rd 1 ?_; refine E_rd 2 ?_; refine E_rd 3 ?_; refine E_rd 4 ?_; refine E_rd 5 ?_; refine E_rd 6 ?_; refine E_rd 7 ?_; refine E_rd 8 ?_; refine E_rd 9 ?_; refine E_rd 10 ?_; refine E_rd 11 ?_
 refine E_al 12 fun K hK => ?_; gi_wp2
 refine Cm (rqCmp_any (M := (w.heap.size + 1) :: M) (a := (regG regs kb).1) (b := (regG regs ka).2) (Bel.le X.out.2.2.2.2.2.2.2.2 (w' := W1.drew) (Nat.le_refl _)) X.out.2.1.1.drew.qw X.out.1.2.drew.qw HO.out.2.1.1.1 HO.out.1.2.1 (HO.out.2.1.1.2.fine HO.out.1.2.2)) ?_
 rintro e w5 ⟨rfl, hb5⟩
 rw [HC.out]
 have hb5' : Below W1.heap.size W1 w5 := (Below.refl W1.heap.size W1).drew.trans (hb5.mono (Nat.le_refl _))
 have F5 := F.out.go hb5'
 refine op1 F5 ?_; intros
 obtain ⟨y0, y1, y2, y3, y4, y5, y6, y7⟩ := X.out.2.2.2.2.2.2.1.go hb5'
 have G5 := Hd2 F5 hb5'
 clear F5 hb5'
 refine hK _ _ ⟨?_, ?_⟩; clear hK K
 · exact Keeps.of_below hb5 _
 refine lit ?_
 clear hb5
 refine E_rd 13 ?_; refine E_rd 14 ?_; refine E_rd 15 ?_; refine E_rd 16 ?_; refine E_rd 17 ?_
 refine E_nl 0 ?_; refine tail_nil _ ?_; simp only [npost]; gi_wp2
 have hz := G5.out.1.nth 1
 obtain ⟨wF, hwF, ⟨t0, t1, t2, t3⟩, ⟨t4, t5, t6, t7⟩, hG, bF⟩ := fin8 (M := M) (hz 0 _ rfl) (hz 1 _ rfl) (hz 2 _ rfl) (hz 3 _ rfl) (hz 4 _ rfl) (hz 5 _ rfl) (hz 6 _ rfl) (hz 7 _ rfl) (x := regG regs ky) (X.out.2.2.1.1.go G5.out.2) (X.out.2.2.1.2.go G5.out.2) G5.out.1.bl (by omega)
 rw [hwF]
 rw [HE.out]
 exact ⟨rfl, .tuple #[.agg #[.bool p7, .slice A7 n7 c7, .bool q7, .slice B7 m7 d7, .bool p8, .slice A8 n8 c8, .bool q8, .slice B8 m8 d8], .int .i64 0], by simp [results, go_sem, t0, t1, t2, t3, t4, t5, t6, t7], _, rfl, hG, bF⟩
set_option maxRecDepth 20000 in
set_option maxHeartbeats 32000000 in
theorem schoose_2 {ka kb ky kz : Nat} (hM : Bel M w) (hx : XC w M r p q A1 n1 c1 A2 n2 c2) (hl : SlG w M B m l regs) (hka : ka < m) (hkb : kb < m) (hky : ky < m) (hkz : kz < m) (oa : OkG (regG regs ka)) (ob : OkG (regG regs kb)) (oy : OkG (regG regs ky)) (oz : OkG (regG regs kz)) (g1 : cmpQ (regG regs kb).1 (regG regs ka).2 < 0) (g2 : cmpQ (regG regs kb).2 (regG regs ka).1 < 0) :
 Calls Tryz.prog 81 #[.agg #[.int .i64 op, .int .i64 (ka : Int), .int .i64 (kb : Int), .int .i64 (ky : Int), .int .i64 (kz : Int), .bool p, .slice A1 n1 c1, .bool q, .slice A2 n2 c2], .slice B m l] w (GR w M (selG (regG regs ka) (regG regs kb) (regG regs ky) (regG regs kz))) := by
 refine wid ?_
 have HE := Hd (show selG (regG regs ka) (regG regs kb) (regG regs ky) (regG regs kz) = regG regs kz by unfold selG; rw [if_neg (fun h => h g1), if_pos g2])
 obtain ⟨c2', hc2'⟩ : ∃ c, cmpQ (regG regs kb).2 (regG regs ka).1 = c := ⟨_, rfl⟩
 rw [hc2'] at g2
 have HC2 := Hd hc2'
 clear hc2'
 obtain ⟨W1, hW1, F1⟩ := nam (((Fr.nil w).a w.heap.size [.int .i64 op, .int .i64 (ka : Int), .int .i64 (kb : Int), .int .i64 (ky : Int), .int .i64 (kz : Int), .bool p, .slice A1 n1 c1, .bool q, .slice A2 n2 c2] 55).a8 (w.heap.size + 1) 33)
 have FO := F1
 refine op1 FO ?_; intros
 have hx1 := (hx.more (k := w.heap.size + 1) (by omega)).go F1.bl
 have hM1 : Bel ((w.heap.size + 1) :: M) W1 := (hM.le F1.bl.size).cons (F1.ltn 1)
 have F := Hd F1
 have hins := F1.nth 0
 have hz := F1.nth 1
 clear hx hM F1 FO
 have hl1 : SlG W1 ((w.heap.size + 1) :: M) B m l regs := (hl.more (b := w.heap.size + 1) (by omega)).go F.out.bl
 have hsm := hl1.small
 clear hl
 obtain ⟨b3, o3, p3, q3, A3, n3, c3, B3, m3, d3, p4, q4, A4, n4, c4, B4, m4, d4, rfl, ⟨ha0, ha1, ha2, ha3⟩, ⟨ha4, ha5, ha6, ha7⟩, alo, ahi⟩ := hl1.at_ hka
 obtain ⟨b5, o5, p5, q5, A5, n5, c5, B5, m5, d5, p6, q6, A6, n6, c6, B6, m6, d6, e5, ⟨hb0, hb1, hb2, hb3⟩, ⟨hb4, hb5, hb6, hb7⟩, blo, bhi⟩ := hl1.at_ hkb
 obtain ⟨rfl, rfl⟩ : b3 = b5 ∧ o3 = o5 := by simpa using e5
 obtain ⟨b7, o7, p7, q7, A7, n7, c7, B7, m7, d7, p8, q8, A8, n8, c8, B8, m8, d8, e7, ⟨hy0, hy1, hy2, hy3⟩, ⟨hy4, hy5, hy6, hy7⟩, ylo, yhi⟩ := hl1.at_ hky
 obtain ⟨rfl, rfl⟩ : b3 = b7 ∧ o3 = o7 := by simpa using e7
 obtain ⟨b9, o9, p9, q9, A9, n9, c9, B9, m9, d9, p10, q10, A10, n10, c10, B10, m10, d10, e9, ⟨hz0, hz1, hz2, hz3⟩, ⟨hz4, hz5, hz6, hz7⟩, zlo, zhi⟩ := hl1.at_ hkz
 obtain ⟨rfl, rfl⟩ : b3 = b9 ∧ o3 = o9 := by simpa using e9
 have X := Hd (And.intro (And.intro alo ahi) (And.intro (And.intro blo bhi) (And.intro (And.intro ylo yhi) (And.intro (And.intro zlo zhi) (And.intro (show C8 W1 b3 (o3 + ka * 8) _ _ _ _ _ _ _ _ from ⟨ha0, ha1, ha2, ha3, ha4, ha5, ha6, ha7⟩) (And.intro (show C8 W1 b3 (o3 + kb * 8) _ _ _ _ _ _ _ _ from ⟨hb0, hb1, hb2, hb3, hb4, hb5, hb6, hb7⟩) (And.intro (show C8 W1 b3 (o3 + ky * 8) _ _ _ _ _ _ _ _ from ⟨hy0, hy1, hy2, hy3, hy4, hy5, hy6, hy7⟩) (And.intro (show C8 W1 b3 (o3 + kz * 8) _ _ _ _ _ _ _ _ from ⟨hz0, hz1, hz2, hz3, hz4, hz5, hz6, hz7⟩) hM1))))))))
 have HO := Hd4 oa ob oy oz
 obtain ⟨cc, hcc⟩ : ∃ cc, cmpQ (regG regs kb).1 (regG regs ka).2 = cc := ⟨_, rfl⟩
 rw [hcc] at g1
 have HC := Hd hcc
 obtain ⟨sb1, hsb1⟩ : ∃ s, W1.heap.size = s := ⟨_, rfl⟩
 have Hsb1 := Hd hsb1
 clear hsb1
 have v0 := stays_s Hsb1.out hb0
 have v1 := stays_s Hsb1.out hb1
 have v2 := stays_s Hsb1.out hb2
 have v3 := stays_s Hsb1.out hb3
 have x0' := stays_s Hsb1.out ha4
 have x1' := stays_s Hsb1.out ha5
 have x2' := stays_s Hsb1.out ha6
 have x3' := stays_s Hsb1.out ha7
 have v8 := stays_s Hsb1.out (hins 1 _ rfl)
 have v9 := stays_s Hsb1.out (hins 2 _ rfl)
 clear hcc hx1 hM1 alo ahi blo bhi ylo yhi zlo zhi hins hz hl1 oa ob oy oz e5 e7 e9 ha0 ha1 ha2 ha3 ha4 ha5 ha6 ha7 hb0 hb1 hb2 hb3 hb4 hb5 hb6 hb7 hy0 hy1 hy2 hy3 hy4 hy5 hy6 hy7 hz0 hz1 hz2 hz3 hz4 hz5 hz6 hz7
 have hc : ¬ 0 ≤ cc := by omega
 refine ent Tryz.func81 rfl Tryz.ntmps81 ?_
 gi_wp2
 refine region_E_np sb1 18 (by kernel_rfl) (by kernel_rfl) ?_
 refine E_rd 0 ?_; refine E_rd 1 ?_; refine E_rd 2 ?_; refine E_rd 3 ?_; refine E_rd 4 ?_; refine E_rd 5 ?_; refine E_rd 6 ?_; refine E_rd 7 ?_; refine E_rd 8 ?_; refine E_rd 9 ?_; refine E_rd 10 ?_; refine E_rd 11 ?_
 refine E_al 12 fun K hK => ?_; gi_wp2
 refine Cm (rqCmp_any (M := (w.heap.size + 1) :: M) (a := (regG regs kb).1) (b := (regG regs ka).2) (Bel.le X.out.2.2.2.2.2.2.2.2 (w' := W1.drew) (Nat.le_refl _)) X.out.2.1.1.drew.qw X.out.1.2.drew.qw HO.out.2.1.1.1 HO.out.1.2.1 (HO.out.2.1.1.2.fine HO.out.1.2.2)) ?_
 rintro e w5 ⟨rfl, hb5⟩
 rw [HC.out]
 have hb5' : Below W1.heap.size W1 w5 := (Below.refl W1.heap.size W1).drew.trans (hb5.mono (Nat.le_refl _))
 have F5 := F.out.go hb5'
 refine op1 F5 ?_; intros
 obtain ⟨y0, y1, y2, y3, y4, y5, y6, y7⟩ := X.out.2.2.2.2.2.2.1.go hb5'
 have G5 := Hd2 F5 hb5'
 clear F5 hb5'
 refine hK _ _ ⟨?_, ?_⟩; clear hK K
 · exact Keeps.of_below hb5 _
 refine lit ?_
 clear hb5
 refine E_rd 13 ?_; refine E_rd 14 ?_; refine E_rd 15 ?_; refine E_rd 16 ?_; refine E_rd 17 ?_
 refine E_nl 0 ?_; refine tail_nil _ ?_; simp only [npost]; gi_wp2
 clear y0 y1 y2 y3 y4 y5 y6 y7 v0 v1 v2 v3 x0' x1' x2' x3' v8 v9
 obtain ⟨sb2, hsb2⟩ : ∃ s, w5.heap.size = s := ⟨_, rfl⟩
 have Hsb2 := Hd hsb2
 clear hsb2
 obtain ⟨ha0, ha1, ha2, ha3, -, -, -, -⟩ := X.out.2.2.2.2.1.go G5.out.2
 obtain ⟨-, -, -, -, hb4, hb5, hb6, hb7⟩ := X.out.2.2.2.2.2.1.go G5.out.2
 have hins := G5.out.1.nth 0
 have v0 := stays_s Hsb2.out ha0
 have v1 := stays_s Hsb2.out ha1
 have v2 := stays_s Hsb2.out ha2
 have v3 := stays_s Hsb2.out ha3
 have x0' := stays_s Hsb2.out hb4
 have x1' := stays_s Hsb2.out hb5
 have x2' := stays_s Hsb2.out hb6
 have x3' := stays_s Hsb2.out hb7
 have v8 := stays_s Hsb2.out (hins 1 _ rfl)
 have v9 := stays_s Hsb2.out (hins 2 _ rfl)
 clear ha0 ha1 ha2 ha3 hb4 hb5 hb6 hb7 hins
 refine region_E_np sb2 18 (by kernel_rfl) (by kernel_rfl) ?_
 refine E_rd 0 ?_; refine E_rd 1 ?_; refine E_rd 2 ?_; refine E_rd 3 ?_; refine E_rd 4 ?_; refine E_rd 5 ?_; refine E_rd 6 ?_; refine E_rd 7 ?_; refine E_rd 8 ?_; refine E_rd 9 ?_; refine E_rd 10 ?_; refine E_rd 11 ?_
 refine E_al 12 fun K hK => ?_; gi_wp2
 refine Cm (rqCmp_any (M := (w.heap.size + 1) :: M) (a := (regG regs kb).2) (b := (regG regs ka).1) (Bel.le X.out.2.2.2.2.2.2.2.2 (w' := w5.drew) G5.out.2.size) (X.out.2.1.2.go G5.out.2).drew.qw (X.out.1.1.go G5.out.2).drew.qw HO.out.2.1.2.1 HO.out.1.1.1 (HO.out.2.1.2.2.fine HO.out.1.1.2)) ?_
 rintro e w6 ⟨rfl, hb6⟩
 rw [HC2.out]
 have hb6' : Below W1.heap.size W1 w6 := G5.out.2.trans ((Below.refl w5.heap.size w5).drew.trans (hb6.mono (Nat.le_refl _)) |>.mono G5.out.2.size)
 have F6 := G5.out.1.go ((Below.refl w5.heap.size w5).drew.trans (hb6.mono (Nat.le_refl _)))
 refine op1 F6 ?_; intros
 obtain ⟨y0, y1, y2, y3, y4, y5, y6, y7⟩ := X.out.2.2.2.2.2.2.2.1.go hb6'
 have G6 := Hd2 F6 hb6'
 clear F6 hb6'
 refine hK _ _ ⟨?_, ?_⟩; clear hK K
 · exact Keeps.of_below hb6 _
 refine lit ?_
 clear hb6
 refine E_rd 13 ?_; refine E_rd 14 ?_; refine E_rd 15 ?_; refine E_rd 16 ?_; refine E_rd 17 ?_
 refine E_nl 0 ?_; refine tail_nil _ ?_; simp only [npost]; gi_wp2
 have hz := G6.out.1.nth 1
 obtain ⟨wF, hwF, ⟨t0, t1, t2, t3⟩, ⟨t4, t5, t6, t7⟩, hG, bF⟩ := fin8 (M := M) (hz 0 _ rfl) (hz 1 _ rfl) (hz 2 _ rfl) (hz 3 _ rfl) (hz 4 _ rfl) (hz 5 _ rfl) (hz 6 _ rfl) (hz 7 _ rfl) (x := regG regs kz) (X.out.2.2.2.1.1.go G6.out.2) (X.out.2.2.2.1.2.go G6.out.2) G6.out.1.bl (by omega)
 rw [hwF]
 rw [HE.out]
 exact ⟨rfl, .tuple #[.agg #[.bool p9, .slice A9 n9 c9, .bool q9, .slice B9 m9 d9, .bool p10, .slice A10 n10 c10, .bool q10, .slice B10 m10 d10], .int .i64 0], by simp [results, go_sem, t0, t1, t2, t3, t4, t5, t6, t7], _, rfl, hG, bF⟩
set_option maxRecDepth 20000 in
set_option maxHeartbeats 32000000 in
theorem schoose_3 {ka kb ky kz : Nat} (hM : Bel M w) (hx : XC w M r p q A1 n1 c1 A2 n2 c2) (hl : SlG w M B m l regs) (hka : ka < m) (hkb : kb < m) (hky : ky < m) (hkz : kz < m) (oa : OkG (regG regs ka)) (ob : OkG (regG regs kb)) (oy : OkG (regG regs ky)) (oz : OkG (regG regs kz)) (g1 : cmpQ (regG regs kb).1 (regG regs ka).2 < 0) (g2 : ¬ cmpQ (regG regs kb).2 (regG regs ka).1 < 0) :
 Calls Tryz.prog 81 #[.agg #[.int .i64 op, .int .i64 (ka : Int), .int .i64 (kb : Int), .int .i64 (ky : Int), .int .i64 (kz : Int), .bool p, .slice A1 n1 c1, .bool q, .slice A2 n2 c2], .slice B m l] w (GR w M (selG (regG regs ka) (regG regs kb) (regG regs ky) (regG regs kz))) := by
 refine wid ?_
 have HE := Hd (show selG (regG regs ka) (regG regs kb) (regG regs ky) (regG regs kz) = (minT (regG regs ky).1 (regG regs kz).1, maxT (regG regs ky).2 (regG regs kz).2) by unfold selG; rw [if_neg (fun h => h g1), if_neg g2])
 obtain ⟨c2', hc2'⟩ : ∃ c, cmpQ (regG regs kb).2 (regG regs ka).1 = c := ⟨_, rfl⟩
 rw [hc2'] at g2
 have HC2 := Hd hc2'
 clear hc2'
 obtain ⟨W1, hW1, F1⟩ := nam (((Fr.nil w).a w.heap.size [.int .i64 op, .int .i64 (ka : Int), .int .i64 (kb : Int), .int .i64 (ky : Int), .int .i64 (kz : Int), .bool p, .slice A1 n1 c1, .bool q, .slice A2 n2 c2] 55).a8 (w.heap.size + 1) 33)
 have FO := F1
 refine op1 FO ?_; intros
 have hx1 := (hx.more (k := w.heap.size + 1) (by omega)).go F1.bl
 have hM1 : Bel ((w.heap.size + 1) :: M) W1 := (hM.le F1.bl.size).cons (F1.ltn 1)
 have F := Hd F1
 have hins := F1.nth 0
 have hz := F1.nth 1
 clear hx hM F1 FO
 have hl1 : SlG W1 ((w.heap.size + 1) :: M) B m l regs := (hl.more (b := w.heap.size + 1) (by omega)).go F.out.bl
 have hsm := hl1.small
 clear hl
 obtain ⟨b3, o3, p3, q3, A3, n3, c3, B3, m3, d3, p4, q4, A4, n4, c4, B4, m4, d4, rfl, ⟨ha0, ha1, ha2, ha3⟩, ⟨ha4, ha5, ha6, ha7⟩, alo, ahi⟩ := hl1.at_ hka
 obtain ⟨b5, o5, p5, q5, A5, n5, c5, B5, m5, d5, p6, q6, A6, n6, c6, B6, m6, d6, e5, ⟨hb0, hb1, hb2, hb3⟩, ⟨hb4, hb5, hb6, hb7⟩, blo, bhi⟩ := hl1.at_ hkb
 obtain ⟨rfl, rfl⟩ : b3 = b5 ∧ o3 = o5 := by simpa using e5
 obtain ⟨b7, o7, p7, q7, A7, n7, c7, B7, m7, d7, p8, q8, A8, n8, c8, B8, m8, d8, e7, ⟨hy0, hy1, hy2, hy3⟩, ⟨hy4, hy5, hy6, hy7⟩, ylo, yhi⟩ := hl1.at_ hky
 obtain ⟨rfl, rfl⟩ : b3 = b7 ∧ o3 = o7 := by simpa using e7
 obtain ⟨b9, o9, p9, q9, A9, n9, c9, B9, m9, d9, p10, q10, A10, n10, c10, B10, m10, d10, e9, ⟨hz0, hz1, hz2, hz3⟩, ⟨hz4, hz5, hz6, hz7⟩, zlo, zhi⟩ := hl1.at_ hkz
 obtain ⟨rfl, rfl⟩ : b3 = b9 ∧ o3 = o9 := by simpa using e9
 have X := Hd (And.intro (And.intro alo ahi) (And.intro (And.intro blo bhi) (And.intro (And.intro ylo yhi) (And.intro (And.intro zlo zhi) (And.intro (show C8 W1 b3 (o3 + ka * 8) _ _ _ _ _ _ _ _ from ⟨ha0, ha1, ha2, ha3, ha4, ha5, ha6, ha7⟩) (And.intro (show C8 W1 b3 (o3 + kb * 8) _ _ _ _ _ _ _ _ from ⟨hb0, hb1, hb2, hb3, hb4, hb5, hb6, hb7⟩) (And.intro (show C8 W1 b3 (o3 + ky * 8) _ _ _ _ _ _ _ _ from ⟨hy0, hy1, hy2, hy3, hy4, hy5, hy6, hy7⟩) (And.intro (show C8 W1 b3 (o3 + kz * 8) _ _ _ _ _ _ _ _ from ⟨hz0, hz1, hz2, hz3, hz4, hz5, hz6, hz7⟩) hM1))))))))
 have HO := Hd4 oa ob oy oz
 obtain ⟨cc, hcc⟩ : ∃ cc, cmpQ (regG regs kb).1 (regG regs ka).2 = cc := ⟨_, rfl⟩
 rw [hcc] at g1
 have HC := Hd hcc
 obtain ⟨sb1, hsb1⟩ : ∃ s, W1.heap.size = s := ⟨_, rfl⟩
 have Hsb1 := Hd hsb1
 clear hsb1
 have v0 := stays_s Hsb1.out hb0
 have v1 := stays_s Hsb1.out hb1
 have v2 := stays_s Hsb1.out hb2
 have v3 := stays_s Hsb1.out hb3
 have x0' := stays_s Hsb1.out ha4
 have x1' := stays_s Hsb1.out ha5
 have x2' := stays_s Hsb1.out ha6
 have x3' := stays_s Hsb1.out ha7
 have v8 := stays_s Hsb1.out (hins 1 _ rfl)
 have v9 := stays_s Hsb1.out (hins 2 _ rfl)
 clear hcc hx1 hM1 alo ahi blo bhi ylo yhi zlo zhi hins hz hl1 oa ob oy oz e5 e7 e9 ha0 ha1 ha2 ha3 ha4 ha5 ha6 ha7 hb0 hb1 hb2 hb3 hb4 hb5 hb6 hb7 hy0 hy1 hy2 hy3 hy4 hy5 hy6 hy7 hz0 hz1 hz2 hz3 hz4 hz5 hz6 hz7
 have hc : ¬ 0 ≤ cc := by omega
 refine ent Tryz.func81 rfl Tryz.ntmps81 ?_
 gi_wp2
 refine region_E_np sb1 18 (by kernel_rfl) (by kernel_rfl) ?_
 refine E_rd 0 ?_; refine E_rd 1 ?_; refine E_rd 2 ?_; refine E_rd 3 ?_; refine E_rd 4 ?_; refine E_rd 5 ?_; refine E_rd 6 ?_; refine E_rd 7 ?_; refine E_rd 8 ?_; refine E_rd 9 ?_; refine E_rd 10 ?_; refine E_rd 11 ?_
 refine E_al 12 fun K hK => ?_; gi_wp2
 refine Cm (rqCmp_any (M := (w.heap.size + 1) :: M) (a := (regG regs kb).1) (b := (regG regs ka).2) (Bel.le X.out.2.2.2.2.2.2.2.2 (w' := W1.drew) (Nat.le_refl _)) X.out.2.1.1.drew.qw X.out.1.2.drew.qw HO.out.2.1.1.1 HO.out.1.2.1 (HO.out.2.1.1.2.fine HO.out.1.2.2)) ?_
 rintro e w5 ⟨rfl, hb5⟩
 rw [HC.out]
 have hb5' : Below W1.heap.size W1 w5 := (Below.refl W1.heap.size W1).drew.trans (hb5.mono (Nat.le_refl _))
 have F5 := F.out.go hb5'
 refine op1 F5 ?_; intros
 obtain ⟨y0, y1, y2, y3, y4, y5, y6, y7⟩ := X.out.2.2.2.2.2.2.1.go hb5'
 have G5 := Hd2 F5 hb5'
 clear F5 hb5'
 refine hK _ _ ⟨?_, ?_⟩; clear hK K
 · exact Keeps.of_below hb5 _
 refine lit ?_
 clear hb5
 refine E_rd 13 ?_; refine E_rd 14 ?_; refine E_rd 15 ?_; refine E_rd 16 ?_; refine E_rd 17 ?_
 refine E_nl 0 ?_; refine tail_nil _ ?_; simp only [npost]; gi_wp2
 clear y0 y1 y2 y3 y4 y5 y6 y7 v0 v1 v2 v3 x0' x1' x2' x3' v8 v9
 obtain ⟨sb2, hsb2⟩ : ∃ s, w5.heap.size = s := ⟨_, rfl⟩
 have Hsb2 := Hd hsb2
 clear hsb2
 obtain ⟨ha0, ha1, ha2, ha3, -, -, -, -⟩ := X.out.2.2.2.2.1.go G5.out.2
 obtain ⟨-, -, -, -, hb4, hb5, hb6, hb7⟩ := X.out.2.2.2.2.2.1.go G5.out.2
 have hins := G5.out.1.nth 0
 have v0 := stays_s Hsb2.out ha0
 have v1 := stays_s Hsb2.out ha1
 have v2 := stays_s Hsb2.out ha2
 have v3 := stays_s Hsb2.out ha3
 have x0' := stays_s Hsb2.out hb4
 have x1' := stays_s Hsb2.out hb5
 have x2' := stays_s Hsb2.out hb6
 have x3' := stays_s Hsb2.out hb7
 have v8 := stays_s Hsb2.out (hins 1 _ rfl)
 have v9 := stays_s Hsb2.out (hins 2 _ rfl)
 clear ha0 ha1 ha2 ha3 hb4 hb5 hb6 hb7 hins
 refine region_E_np sb2 18 (by kernel_rfl) (by kernel_rfl) ?_
 refine E_rd 0 ?_; refine E_rd 1 ?_; refine E_rd 2 ?_; refine E_rd 3 ?_; refine E_rd 4 ?_; refine E_rd 5 ?_; refine E_rd 6 ?_; refine E_rd 7 ?_; refine E_rd 8 ?_; refine E_rd 9 ?_; refine E_rd 10 ?_; refine E_rd 11 ?_
 refine E_al 12 fun K hK => ?_; gi_wp2
 refine Cm (rqCmp_any (M := (w.heap.size + 1) :: M) (a := (regG regs kb).2) (b := (regG regs ka).1) (Bel.le X.out.2.2.2.2.2.2.2.2 (w' := w5.drew) G5.out.2.size) (X.out.2.1.2.go G5.out.2).drew.qw (X.out.1.1.go G5.out.2).drew.qw HO.out.2.1.2.1 HO.out.1.1.1 (HO.out.2.1.2.2.fine HO.out.1.1.2)) ?_
 rintro e w6 ⟨rfl, hb6⟩
 rw [HC2.out]
 have hb6' : Below W1.heap.size W1 w6 := G5.out.2.trans ((Below.refl w5.heap.size w5).drew.trans (hb6.mono (Nat.le_refl _)) |>.mono G5.out.2.size)
 have F6 := G5.out.1.go ((Below.refl w5.heap.size w5).drew.trans (hb6.mono (Nat.le_refl _)))
 refine op1 F6 ?_; intros
 obtain ⟨y0, y1, y2, y3, y4, y5, y6, y7⟩ := X.out.2.2.2.2.2.2.2.1.go hb6'
 have G6 := Hd2 F6 hb6'
 clear F6 hb6'
 refine hK _ _ ⟨?_, ?_⟩; clear hK K
 · exact Keeps.of_below hb6 _
 refine lit ?_
 clear hb6
 refine E_rd 13 ?_; refine E_rd 14 ?_; refine E_rd 15 ?_; refine E_rd 16 ?_; refine E_rd 17 ?_
 refine E_nl 0 ?_; refine tail_nil _ ?_; simp only [npost]; gi_wp2
 clear y0 y1 y2 y3 y4 y5 y6 y7 v0 v1 v2 v3 x0' x1' x2' x3' v8 v9
 obtain ⟨sb3, hsb3⟩ : ∃ s, w6.heap.size = s := ⟨_, rfl⟩
 have Hsb3 := Hd hsb3
 clear hsb3
 obtain ⟨ha0, ha1, ha2, ha3, -, -, -, -⟩ := X.out.2.2.2.2.2.2.1.go G6.out.2
 obtain ⟨hb0, hb1, hb2, hb3, -, -, -, -⟩ := X.out.2.2.2.2.2.2.2.1.go G6.out.2
 have hins := G6.out.1.nth 0
 have v0 := stays_s Hsb3.out ha0
 have v1 := stays_s Hsb3.out ha1
 have v2 := stays_s Hsb3.out ha2
 have v3 := stays_s Hsb3.out ha3
 have v0' := stays_s Hsb3.out hb0
 have v1' := stays_s Hsb3.out hb1
 have v2' := stays_s Hsb3.out hb2
 have v3' := stays_s Hsb3.out hb3
 have v8 := stays_s Hsb3.out (hins 3 _ rfl)
 have v9 := stays_s Hsb3.out (hins 4 _ rfl)
 clear ha0 ha1 ha2 ha3 hb0 hb1 hb2 hb3 hins
 refine region_E_np sb3 18 (by kernel_rfl) (by kernel_rfl) ?_
 refine E_rd 0 ?_; refine E_rd 1 ?_; refine E_rd 2 ?_; refine E_rd 3 ?_; refine E_rd 4 ?_; refine E_rd 5 ?_; refine E_rd 6 ?_; refine E_rd 7 ?_; refine E_rd 8 ?_; refine E_rd 9 ?_; refine E_rd 10 ?_; refine E_rd 11 ?_
 obtain ⟨M', hM1⟩ : ∃ M', (w.heap.size + 1) :: M = M' := ⟨_, rfl⟩
 obtain ⟨wc, hwc⟩ : ∃ V, (w6).drew = V := ⟨_, rfl⟩
 have trM : Bel ((w.heap.size + 1) :: M) w6 → Bel M' wc := fun h => by rw [← hM1, ← hwc]; exact h
 have tr : ∀ {r : Rt} {p q : Bool} {A : Option Addr} {n c : Nat} {B : Option Addr} {m d : Nat}, QC w6 ((w.heap.size + 1) :: M) r p q A n c B m d → QC wc M' r p q A n c B m d := fun h => by rw [← hM1, ← hwc]; exact h.drew
 have FC := Hd (hwc ▸ (G6.out.1).drew)
 have BC := Hd (show Below w6.heap.size w6 wc by rw [← hwc]; exact (Below.refl _ _).drew)
 rw [hwc]
 clear hwc
 iterate 2 (all_goals (refine E_by [12, 16] (A_c ?_ (A_c ?_ A_n)) <;> (first
  | exact Arm.no
  | (refine Arm.mk 12 fun K hK => ?_
     gi_wp2; refine Cm (spick_min (M := M') (a := (regG regs ky).1) (b := (regG regs kz).1) (trM (Bel.le X.out.2.2.2.2.2.2.2.2 G6.out.2.size)) (tr (X.out.2.2.1.1.go G6.out.2)).qw (tr (X.out.2.2.2.1.1.go G6.out.2)).qw HO.out.2.2.1.1.1 HO.out.2.2.2.1.1 (HO.out.2.2.1.1.2.fine HO.out.2.2.2.1.2)) ?_; rintro e wc ⟨u2, rfl, z2, hb2⟩; obtain ⟨p21, q21, A21, n21, c21, B21, m21, d21, rfl, qc9⟩ := QC.of z2; have QZ := Hd qc9; replace FC := Hd (FC.out.go hb2); replace BC := Hd (BC.out.trans (hb2.mono BC.out.size)); refine hK _ _ ⟨?_, ?_⟩; clear hK K
     · exact Keeps.of_below hb2 _
     refine lit ?_; clear z2 hb2 qc9 trM tr
     refine E_rd 13 ?_; refine E_rd 14 ?_; refine E_rd 15 ?_)
  | (refine Arm.mk 16 fun K hK => ?_
     obtain ⟨y21, hy⟩ : ∃ y, wc.heap.size = y := ⟨_, rfl⟩
     obtain ⟨wc, hV, hb2, FV⟩ := nam2 (w := wc) (FC.out.a4 y21 31 hy.symm)
     obtain ⟨M', hM2⟩ : ∃ N, y21 :: M' = N := ⟨_, rfl⟩
     have hl := Nat.le_of_eq hy
     first
      | replace trM : Bel ((w.heap.size + 1) :: M) w6 → Bel M' wc := fun h => by rw [← hM2]; exact (Bel.le (trM h) hb2.size).cons FV.lst
        replace tr : ∀ {r : Rt} {p q : Bool} {A : Option Addr} {n c : Nat} {B : Option Addr} {m d : Nat}, QC w6 ((w.heap.size + 1) :: M) r p q A n c B m d → QC wc M' r p q A n c B m d := fun h => by rw [← hM2]; exact ((tr h).more hl).go hb2
      | (replace QZ := Hd ((QZ.out.more hl).go hb2); rw [hM2] at QZ)
     replace FC := Hd FV; have HY := Hd (hy ▸ BC.out.size); replace BC := Hd (BC.out.trans (hb2.mono BC.out.size)); gi_wp2; refine ⟨Keeps.of_below hb2 _, ?_⟩; refine lit ?_
     try rw [hy]
     clear FV hV hy hl hb2))))
 all_goals
  subst hM2; subst hM1; have HZ := Hd4 FC.out QZ.out BC.out HY.out; clear FC QZ BC HY
 all_goals
  clear v0 v1 v2 v3 v0' v1' v2' v3' v8 v9; obtain ⟨W3, hW3, F6, hB6, kp6⟩ := Fr.put4 (y := y21) HZ.out.1 (fun b vs hm => Nat.ne_of_lt (Nat.lt_of_lt_of_le ((G6.out.1).lt b vs hm) HZ.out.2.2.2)) (.bool p21) (.slice A21 n21 c21) (.bool q21) (.slice B21 m21 d21); have FZ := HZ.out.1; refine op1 FZ ?_; intros; refine op1 F6 ?_; intros; have HS1 := Hd3 F6 (HZ.out.2.1.keepY kp6) (hB6 _ _ HZ.out.2.2.2 HZ.out.2.2.1); have kU := Keeps.of_one (s := sb3) kp6 (Hsb3.out ▸ HZ.out.2.2.2); clear FZ F6 hB6 kp6 HZ
  refine E_al 17 fun K hK => ?_; gi_wp2
  refine ⟨kU, ?_⟩; refine lit ?_; clear kU
  refine E_nl 1 ?_; refine tls fun K hK K' hK' => ?_; gi_wp2; refine tail_nil _ ?_; simp only [npost]; gi_wp2
  have HB3 := Hd (G6.out.2.trans (HS1.out.2.2.mono G6.out.2.size))
  obtain ⟨sb4, hsb4⟩ : ∃ s, W3.heap.size = s := ⟨_, rfl⟩
  have Hsb4 := Hd hsb4; clear hsb4; obtain ⟨-, -, -, -, ha4, ha5, ha6, ha7⟩ := X.out.2.2.2.2.2.2.1.go HB3.out; obtain ⟨-, -, -, -, hb4, hb5, hb6, hb7⟩ := X.out.2.2.2.2.2.2.2.1.go HB3.out; have hins := HS1.out.1.nth 0; have v0 := stays_s Hsb4.out ha4; have v1 := stays_s Hsb4.out ha5; have v2 := stays_s Hsb4.out ha6; have v3 := stays_s Hsb4.out ha7; have v0' := stays_s Hsb4.out hb4; have v1' := stays_s Hsb4.out hb5; have v2' := stays_s Hsb4.out hb6; have v3' := stays_s Hsb4.out hb7; have v8 := stays_s Hsb4.out (hins 3 _ rfl); have v9 := stays_s Hsb4.out (hins 4 _ rfl); clear ha4 ha5 ha6 ha7 hb4 hb5 hb6 hb7 hins hW3; refine region_E_np sb4 18 (by kernel_rfl) (by kernel_rfl) ?_; refine E_rd 0 ?_; refine E_rd 1 ?_; refine E_rd 2 ?_; refine E_rd 3 ?_; refine E_rd 4 ?_; refine E_rd 5 ?_; refine E_rd 6 ?_; refine E_rd 7 ?_; refine E_rd 8 ?_; refine E_rd 9 ?_; refine E_rd 10 ?_; refine E_rd 11 ?_
  obtain ⟨M', hM1⟩ : ∃ M', (w.heap.size + 1) :: M = M' := ⟨_, rfl⟩
  obtain ⟨wc, hwc⟩ : ∃ V, (W3).drew = V := ⟨_, rfl⟩
  have trM : Bel ((w.heap.size + 1) :: M) W3 → Bel M' wc := fun h => by rw [← hM1, ← hwc]; exact h
  have tr : ∀ {r : Rt} {p q : Bool} {A : Option Addr} {n c : Nat} {B : Option Addr} {m d : Nat}, QC W3 ((w.heap.size + 1) :: M) r p q A n c B m d → QC wc M' r p q A n c B m d := fun h => by rw [← hM1, ← hwc]; exact h.drew
  have FC := Hd (hwc ▸ (HS1.out.1).drew); have BC := Hd (show Below W3.heap.size W3 wc by rw [← hwc]; exact (Below.refl _ _).drew); rw [hwc]; clear hwc
  iterate 2 (all_goals (refine E_by [12, 16] (A_c ?_ (A_c ?_ A_n)) <;> (first
   | exact Arm.no
   | (refine Arm.mk 12 fun K hK => ?_
      gi_wp2; refine Cm (spick_max (M := M') (a := (regG regs ky).2) (b := (regG regs kz).2) (trM (Bel.le X.out.2.2.2.2.2.2.2.2 HB3.out.size)) (tr (X.out.2.2.1.2.go HB3.out)).qw (tr (X.out.2.2.2.1.2.go HB3.out)).qw HO.out.2.2.1.2.1 HO.out.2.2.2.2.1 (HO.out.2.2.1.2.2.fine HO.out.2.2.2.2.2)) ?_; rintro e wc ⟨u2, rfl, z2, hb2⟩; obtain ⟨p22, q22, A22, n22, c22, B22, m22, d22, rfl, qc9⟩ := QC.of z2; have QZ := Hd qc9; replace FC := Hd (FC.out.go hb2); replace BC := Hd (BC.out.trans (hb2.mono BC.out.size)); refine hK _ _ ⟨?_, ?_⟩; clear hK K
      · exact Keeps.of_below hb2 _
      refine lit ?_; clear z2 hb2 qc9 trM tr
      refine E_rd 13 ?_; refine E_rd 14 ?_; refine E_rd 15 ?_)
   | (refine Arm.mk 16 fun K hK => ?_
      obtain ⟨y22, hy⟩ : ∃ y, wc.heap.size = y := ⟨_, rfl⟩
      obtain ⟨wc, hV, hb2, FV⟩ := nam2 (w := wc) (FC.out.a4 y22 31 hy.symm)
      obtain ⟨M', hM2⟩ : ∃ N, y22 :: M' = N := ⟨_, rfl⟩
      have hl := Nat.le_of_eq hy
      first
       | replace trM : Bel ((w.heap.size + 1) :: M) W3 → Bel M' wc := fun h => by rw [← hM2]; exact (Bel.le (trM h) hb2.size).cons FV.lst
         replace tr : ∀ {r : Rt} {p q : Bool} {A : Option Addr} {n c : Nat} {B : Option Addr} {m d : Nat}, QC W3 ((w.heap.size + 1) :: M) r p q A n c B m d → QC wc M' r p q A n c B m d := fun h => by rw [← hM2]; exact ((tr h).more hl).go hb2
       | (replace QZ := Hd ((QZ.out.more hl).go hb2); rw [hM2] at QZ)
      replace FC := Hd FV; have HY := Hd (hy ▸ BC.out.size); replace BC := Hd (BC.out.trans (hb2.mono BC.out.size)); gi_wp2; refine ⟨Keeps.of_below hb2 _, ?_⟩; refine lit ?_
      try rw [hy]
      clear FV hV hy hl hb2))))
  all_goals
   subst hM2; subst hM1; have HZ := Hd4 FC.out QZ.out BC.out HY.out; clear FC QZ BC HY
  all_goals
   clear v0 v1 v2 v3 v0' v1' v2' v3' v8 v9; obtain ⟨W4, hW4, F6, hB6, kp6⟩ := Fr.put4 (y := y22) HZ.out.1 (fun b vs hm => Nat.ne_of_lt (Nat.lt_of_lt_of_le ((HS1.out.1).lt b vs hm) HZ.out.2.2.2)) (.bool p22) (.slice A22 n22 c22) (.bool q22) (.slice B22 m22 d22); have FZ := HZ.out.1; refine op1 FZ ?_; intros; refine op1 F6 ?_; intros; have HS2 := Hd3 F6 (HZ.out.2.1.keepY kp6) (hB6 _ _ HZ.out.2.2.2 HZ.out.2.2.1); have kU := Keeps.of_one (s := sb4) kp6 (Hsb4.out ▸ HZ.out.2.2.2); clear FZ F6 hB6 kp6 HZ
   refine E_al 17 fun K hK => ?_; gi_wp2
   refine ⟨kU, ?_⟩; refine lit ?_; clear kU
   refine E_nl 1 ?_; refine tls fun K hK K' hK' => ?_; gi_wp2; refine tail_nil _ ?_; simp only [npost]; gi_wp2
   refine Cl 77 (sspan_any (M := (w.heap.size + 1) :: M) (HS1.out.2.1.go HS2.out.2.2).qw HS2.out.2.1.qw) ?_; rintro e w9 ⟨u9, rfl, ⟨p8, q8, A8, n8, c8, B8, m8, d8, p9, q9, A9, n9, c9, B9, m9, d9, rfl, qlo, qhi⟩, hb9⟩; have F9 := HS2.out.1.go hb9; refine op1 F9 ?_; intros; have G9 := Hd3 F9 qlo qhi; clear F9 qlo qhi hb9; gi_wp2; have hz := G9.out.1.nth 1; obtain ⟨wF, hwF, ⟨t0, t1, t2, t3⟩, ⟨t4, t5, t6, t7⟩, hG, bF⟩ := fin8 (M := M) (hz 0 _ rfl) (hz 1 _ rfl) (hz 2 _ rfl) (hz 3 _ rfl) (hz 4 _ rfl) (hz 5 _ rfl) (hz 6 _ rfl) (hz 7 _ rfl) (x := (minT (regG regs ky).1 (regG regs kz).1, maxT (regG regs ky).2 (regG regs kz).2)) G9.out.2.1 G9.out.2.2 G9.out.1.bl (by omega); rw [hwF]; rw [HE.out]; exact ⟨rfl, .tuple #[.agg #[.bool p8, .slice A8 n8 c8, .bool q8, .slice B8 m8 d8, .bool p9, .slice A9 n9 c9, .bool q9, .slice B9 m9 d9], .int .i64 0], by simp [results, go_sem, t0, t1, t2, t3, t4, t5, t6, t7], _, rfl, hG, bF⟩
theorem schoose_any {ka kb ky kz : Nat} (hM : Bel M w) (hx : XC w M r p q A1 n1 c1 A2 n2 c2) (hl : SlG w M B m l regs) (hka : ka < m) (hkb : kb < m) (hky : ky < m) (hkz : kz < m) (oa : OkG (regG regs ka)) (ob : OkG (regG regs kb)) (oy : OkG (regG regs ky)) (oz : OkG (regG regs kz)) :
 Calls Tryz.prog 81 #[.agg #[.int .i64 op, .int .i64 (ka : Int), .int .i64 (kb : Int), .int .i64 (ky : Int), .int .i64 (kz : Int), .bool p, .slice A1 n1 c1, .bool q, .slice A2 n2 c2], .slice B m l] w (GR w M (selG (regG regs ka) (regG regs kb) (regG regs ky) (regG regs kz))) := by
 by_cases g1 : cmpQ (regG regs kb).1 (regG regs ka).2 < 0
 · by_cases g2 : cmpQ (regG regs kb).2 (regG regs ka).1 < 0
   · exact schoose_2 hM hx hl hka hkb hky hkz oa ob oy oz g1 g2
   · exact schoose_3 hM hx hl hka hkb hky hkz oa ob oy oz g1 g2
 · exact schoose_1 hM hx hl hka hkb hky hkz oa ob oy oz g1
set_option maxRecDepth 20000 in
set_option maxHeartbeats 32000000 in
theorem sstp8_any (hM : Bel M w) (hx : XC w M r p q A1 n1 c1 A2 n2 c2) (hl : SlG w M B m l regs) (ha : belowB a m = true) (hb : belowB b m = true) (hy : belowB x3 m = true) (hz : belowB x4 m = true) (oa : OkG (regG regs a)) (ob : OkG (regG regs b)) (oy : OkG (regG regs x3)) (oz : OkG (regG regs x4)) :
 Calls Tryz.prog 37 #[.agg #[.int .i64 8, .int .i64 a, .int .i64 b, .int .i64 x3, .int .i64 x4, .bool p, .slice A1 n1 c1, .bool q, .slice A2 n2 c2], .slice A n c, .slice B m l] w (GR w M (selG (regG regs a) (regG regs b) (regG regs x3) (regG regs x4))) := by
 refine wid ?_
 obtain ⟨ka, rfl, hka⟩ := below_nat ha
 obtain ⟨kb, rfl, hkb⟩ := below_nat hb
 obtain ⟨ky, rfl, hky⟩ := below_nat hy
 obtain ⟨kz, rfl, hkz⟩ := below_nat hz
 have HE := Hd (show selG (regG regs ka) (regG regs kb) (regG regs ky) (regG regs kz) = selG (regG regs ka) (regG regs kb) (regG regs ky) (regG regs kz) from rfl)
 clear hz
 obtain ⟨W1, hW1, F1⟩ := nam (((Fr.nil w).a w.heap.size [.int .i64 8, .int .i64 (ka : Int), .int .i64 (kb : Int), .int .i64 (ky : Int), .int .i64 (kz : Int), .bool p, .slice A1 n1 c1, .bool q, .slice A2 n2 c2] 55).a8 (w.heap.size + 1) 33)
 have FO := F1
 refine op1 FO ?_; intros
 have hx1 := (hx.more (k := w.heap.size + 1) (by omega)).go F1.bl
 have hM1 : Bel ((w.heap.size + 1) :: M) W1 := (hM.le F1.bl.size).cons (F1.ltn 1)
 have F := Hd F1
 have hins := F1.nth 0
 have hz := F1.nth 1
 clear hx hM F1 FO
 have hl1 : SlG W1 ((w.heap.size + 1) :: M) B m l regs := (hl.more (b := w.heap.size + 1) (by omega)).go F.out.bl
 have X := Hd7 hx1 hM1 hl1 oa ob oy oz
 clear hl hl1 hx1 hM1 oa ob oy oz hins hz ha hb hy
 refine ent Tryz.func37 rfl Tryz.ntmps37 ?_
 gi_wp2_with (refine Cl 81 (schoose_any (M := (w.heap.size + 1) :: M) X.out.2.1 X.out.1 X.out.2.2.1 hka hkb hky hkz X.out.2.2.2.1 X.out.2.2.2.2.1 X.out.2.2.2.2.2.1 X.out.2.2.2.2.2.2) ?_
              rintro e w9 ⟨u9, rfl, ⟨p8, q8, A8, n8, c8, B8, m8, d8, p9, q9, A9, n9, c9, B9, m9, d9, rfl, qlo, qhi⟩, hb9⟩; have F9 := F.out.go hb9; refine op1 F9 ?_; intros; have G9 := Hd3 F9 qlo qhi
              clear F9 qlo qhi hb9)
 have hz := G9.out.1.nth 1
 obtain ⟨wF, hwF, ⟨t0, t1, t2, t3⟩, ⟨t4, t5, t6, t7⟩, hG, bF⟩ := fin8 (M := M) (hz 0 _ rfl) (hz 1 _ rfl) (hz 2 _ rfl) (hz 3 _ rfl) (hz 4 _ rfl) (hz 5 _ rfl) (hz 6 _ rfl) (hz 7 _ rfl) (x := selG (regG regs ka) (regG regs kb) (regG regs ky) (regG regs kz)) G9.out.2.1 G9.out.2.2 G9.out.1.bl (by omega)
 rw [hwF]
 exact ⟨rfl, .tuple #[.agg #[.bool p8, .slice A8 n8 c8, .bool q8, .slice B8 m8 d8, .bool p9, .slice A9 n9 c9, .bool q9, .slice B9 m9 d9], .int .i64 0], by simp [results, go_sem, t0, t1, t2, t3, t4, t5, t6, t7], _, rfl, hG, bF⟩
end
end U
section
open Go.RowKit Go.Shelf
section
variable {M : List Nat} {A B A1 A2 : Option Addr} {n c m l n1 c1 n2 c2 : Nat} {a b x3 x4 : Int} {r : RatR} {p q : Bool} {w : World}
theorem sstep_any {o : Nat} {ins regs : List Rg} (hM : Bel M w) (hi : SlG w M A n c ins) (hl : SlG w M B m l regs) (hx : XC w M r p q A1 n1 c1 A2 n2 c2) (hr : rightI m n ((o : Int), a, b, x3, x4, r) = true) (hf : Few3 r) (hs : AllS (ends regs)) :
 Calls Tryz.prog 37 #[.agg #[.int .i64 (o : Int), .int .i64 a, .int .i64 b, .int .i64 x3, .int .i64 x4, .bool p, .slice A1 n1 c1, .bool q, .slice A2 n2 c2], .slice A n c, .slice B m l] w (GR w M (stepG ins regs ((o : Int), a, b, x3, x4, r))) := by
 have hle : regs.length = m := hl.len
 have up : ∀ {i : Int}, belowB i (m : Int) = true → belowB i regs.length = true := fun h => by rw [hle]; exact h
 rcases right_at hr with ⟨e, h1⟩ | ⟨e, h1⟩ | ⟨h3, h1, h2⟩ | ⟨e, h1, h2⟩ | ⟨e, h1, h2, h4, h5⟩
 · obtain rfl : o = 1 := by omega
   exact sstp1_any hM hx h1
 · obtain rfl : o = 2 := by omega
   exact sstp2_any hM hx hi h1
 · have h3' : o = 3 ∨ o = 4 ∨ o = 6 ∨ o = 7 := by omega
   have oa := hs.refG (up h1); have ob := hs.refG (up h2)
   rcases h3' with rfl | rfl | rfl | rfl
   · exact U.sstp3_any hM hx hl h1 h2 oa ob
   · exact U.sstp4_any hM hx hl h1 h2 oa ob
   · exact U.sstp6_any hM hx hl h1 h2 oa ob
   · exact U.sstp7_any hM hx hl h1 h2 oa ob
 · obtain rfl : o = 5 := by omega
   exact U.sstp5_any hM hx h2 (few3_right h2 hf) hl h1 (hs.refG (up h1))
 · obtain rfl : o = 8 := by omega
   exact U.sstp8_any hM hx hl h1 h2 h4 h5 (hs.refG (up h1)) (hs.refG (up h2)) (hs.refG (up h4)) (hs.refG (up h5))
end
end
section
open Go.RowKit Go.Shelf
def underG (x : Rg) : Bool := decide (cmpQ x.2 x.1 < 0)
theorem under_enc (x : Rg) : under (encG x) = underG x := by unfold under underG encG; simp only [decQ_enc]
theorem any_under (l : List Rg) : (l.map encG).any under = l.any underG := by
 rw [List.any_map]
 congr 1
 funext x
 exact under_enc x
theorem zmag0 : zmag 0 = [] := dig_zero
theorem qc0 (V : World) (M : List Nat) : QC V M ⟨0, 0⟩ false false none 0 0 none 0 0 := ⟨⟨rfl, by rw [zmag0]; exact Sl.nil0⟩, ⟨rfl, by rw [zmag0]; exact Sl.nil0⟩⟩
def zR : Rg := (⟨0, 0⟩, ⟨0, 0⟩)
theorem enc_z : encQ ⟨0, 0⟩ = zeroQ := by unfold encQ encB zeroQ; rw [zmag0]; rfl
theorem enc_zR : encG zR = zeroG := by unfold encG zR zeroG; rw [enc_z]
theorem GW.gv0 {w : World} {M : List Nat} {v : Value} (h : GW w M v zR) : GV w M v zeroG := by rw [← enc_zR]; exact h.gv
structure OutH (w : World) (M : List Nat) (A : Option Addr) (n c : Nat) (B : Option Addr) (m d : Nat) (p : List InsR) (l : List Rg) : Prop where
 bel : Bel M w
 sp : Sl InsR w M A n c p
 si : Sl RngR w M B m d (l.map encG)
 ce : codeE p m = 0
 few : FewP p
 len : n ≤ 20
 regs : Regs 0 (ends l)
section
variable {w : World} {M : List Nat} {A B : Option Addr} {n c m d : Nat} {p : List InsR} {l : List Rg}
theorem OutH.lp (h : OutH w M A n c B m d p l) : p.length = n := h.sp.len
theorem OutH.li (h : OutH w M A n c B m d p l) : l.length = m := by have := h.si.len; simpa using this
theorem OutH.pos (h : OutH w M A n c B m d p l) : 1 ≤ n := by have := ((codeE_iff p m).1 h.ce).1.1; rw [h.lp] at this; exact this
theorem OutH.rights (h : OutH w M A n c B m d p l) : rightsI m 0 p = true := ((codeE_iff p m).1 h.ce).2
theorem OutH.ins (h : OutH w M A n c B m d p l) : AllS (ends l) := h.regs.sh (by omega)
theorem OutH.in_k (h : OutH w M A n c B m d p l) {k : Nat} (hk : k < m) : OkG (regG l k) := h.ins.refG (decide_eq_true ⟨by omega, by rw [h.li]; omega⟩)
theorem OutH.all (h : OutH w M A n c B m d p l) {k : Nat} (hk : k ≤ n) : AllS (ends (runsG l [] (p.take k))) := by
 have := (runs_regsG h.regs (by rw [h.li]; exact h.rights) h.few (by rw [h.lp]; exact h.len) k (by rw [h.lp]; exact hk)).all (by have := h.len; omega)
 rw [ends_append] at this
 exact this.right
theorem OutH.right_k (h : OutH w M A n c B m d p l) {k : Nat} {x : InsR} (hx : p[k]? = some x) : rightI (k : Nat) (m : Nat) x = true ∧ Few3 x.2.2.2.2.2 := by
 have := rights_at h.rights hx
 rw [Int.zero_add] at this
 exact ⟨this, h.few x (List.mem_of_getElem? hx)⟩
theorem OutH.step (h : OutH w M A n c B m d p l) {k : Nat} {x : InsR} (hx : p[k]? = some x) : runsG l [] (p.take (k + 1)) = runsG l [] (p.take k) ++ [stepG l (runsG l [] (p.take k)) x] := by
 rw [take_snoc hx, runsG_snoc]
theorem OutH.res (h : OutH w M A n c B m d p l) : regG (runsG l [] (p.take n)) ((n - 1 : Nat) : Int) = outG p l := by
 rw [List.take_of_length_le (by rw [h.lp]; exact Nat.le_refl _)]
 unfold outG
 rw [h.lp]
 have := h.pos
 congr 1
 omega
theorem OutH.all_ok (h : OutH w M A n c B m d p l) : (l.map encG).all rngOk = true := by
 rw [List.all_eq_true]
 intro x hx
 obtain ⟨y, hy, rfl⟩ := List.mem_map.1 hx
 have h1 := mem_ends hy
 simp only [rngOk, encG, ratOk_enc (h.ins _ h1.1).1, ratOk_enc (h.ins _ h1.2).1, Bool.and_self]
theorem OutH.outE (h : OutH w M A n c B m d p l) : outE p (l.map encG) = if l.any underG then 200 else 0 := by
 unfold Go.Proofs.YtboapndkopabiaaGreat.outE
 have hl : (l.map encG).length = m := by simpa using h.li
 rw [hl, if_pos h.ce, if_pos h.all_ok, any_under]
theorem OutH.outV (h : OutH w M A n c B m d p l) (hu : l.any underG = false) : outV p (l.map encG) = encG (outG p l) := by
 unfold Go.Proofs.YtboapndkopabiaaGreat.outV
 rw [h.outE, hu]
 simp only [Bool.false_eq_true, if_false, if_true]
 congr 2
 rw [List.map_map]
 conv => rhs; rw [← List.map_id l]
 exact List.map_congr_left fun x _ => decG_enc x
end
theorem regG_get {l : List Rg} {k : Nat} {x : Rg} (h : l[k]? = some x) : regG l k = x := by simp [regG, h]
end
end Go.Proofs.YtboapndkopabiaaGreat
