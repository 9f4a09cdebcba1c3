/- Lemmas and walks (Spn3). No statement is proved here. -/
import Derived.Test.YtboapndkopabiaaGreatM29
set_option linter.unusedVariables false
set_option linter.unusedSimpArgs false
namespace Go.Proofs.YtboapndkopabiaaGreat.U
open Go.RowKit Go.Shelf
attribute [local go_sem] Oper.semAt_some
section
variable {M : List Nat} {A B A1 A2 : Option Addr} {n c m l n1 c1 n2 c2 : Nat} {ins regs : List Rg} {op a b x3 x4 : Int} {r : RatR} {p q : Bool} {w : World}
set_option maxRecDepth 20000 in
set_option maxHeartbeats 32000000 in
theorem sstp5_pos {ka : Nat} (hM : Bel M w) (hx : XC w M r false q A1 n1 c1 A2 n2 c2) (hr : ratOk r = true) (sr : Sh (decQ r)) (hl : SlG w M B m l regs) (hka : ka < m) (oa : OkG (regG regs ka)) :
 Calls Tryz.prog 37 #[.agg #[.int .i64 5, .int .i64 (ka : Int), .int .i64 b, .int .i64 x3, .int .i64 x4, .bool false, .slice A1 n1 c1, .bool q, .slice A2 n2 c2], .slice A n c, .slice B m l] w (GR w M (mulG (decQ r) (regG regs ka))) := by
 refine wid ?_
 have hneg : zneg (decQ r).num = false := (hx.qc hr).num.neg
 have HE := Hd (show mulG (decQ r) (regG regs ka) = (mulQ (decQ r) (regG regs ka).1, mulQ (decQ r) (regG regs ka).2) by
  unfold mulG
  rw [if_neg (by simp [zneg] at hneg; omega), mulQ_comm (regG regs ka).1, mulQ_comm (regG regs ka).2])
 obtain ⟨W1, hW1, F1⟩ := nam (((Fr.nil w).a w.heap.size [.int .i64 5, .int .i64 (ka : Int), .int .i64 b, .int .i64 x3, .int .i64 x4, .bool false, .slice A1 n1 c1, .bool q, .slice A2 n2 c2] 55).a8 (w.heap.size + 1) 33)
 have FO := F1
 refine op1 FO ?_; intros
 have hx1 := (hx.more (k := w.heap.size + 1) (by omega)).go F1.bl
 have hM1 : Bel ((w.heap.size + 1) :: M) W1 := (hM.le F1.bl.size).cons (F1.ltn 1)
 have F := Hd F1
 have hins := F1.nth 0
 have hz := F1.nth 1
 clear hx hM F1 FO
 have hl1 : SlG W1 ((w.heap.size + 1) :: M) B m l regs := (hl.more (b := w.heap.size + 1) (by omega)).go F.out.bl
 have hsm := hl1.small
 clear hl hneg
 obtain ⟨b3, o3, p3, q3, A3, n3, c3, B3, m3, d3, p4, q4, A4, n4, c4, B4, m4, d4, rfl, ⟨h0, h1, h2, h3⟩, ⟨h4, h5, h6, h7⟩, alo, ahi⟩ := hl1.at_ hka
 have X := Hd5 alo ahi (hx1.qc hr) (show C8 W1 b3 (o3 + ka * 8) _ _ _ _ _ _ _ _ from ⟨h0, h1, h2, h3, h4, h5, h6, h7⟩) hM1
 have HO := Hd3 oa (decQ_ok hr) sr
 obtain ⟨sb1, hsb1⟩ : ∃ s, W1.heap.size = s := ⟨_, rfl⟩
 have Hsb1 := Hd hsb1
 clear hsb1
 have v0 := stays_s Hsb1.out h0
 have v1 := stays_s Hsb1.out h1
 have v2 := stays_s Hsb1.out h2
 have v3 := stays_s Hsb1.out h3
 have v8 := stays_s Hsb1.out (hins 1 _ rfl)
 have v9 := stays_s Hsb1.out (hins 5 _ rfl)
 have v10 := stays_s Hsb1.out (hins 6 _ rfl)
 have v11 := stays_s Hsb1.out (hins 7 _ rfl)
 have v12 := stays_s Hsb1.out (hins 8 _ rfl)
 clear hx1 hM1 alo ahi h0 h1 h2 h3 h4 h5 h6 h7 oa hins hz hl1 sr hr
 refine ent Tryz.func37 rfl Tryz.ntmps37 ?_
 gi_wp2
 refine region_E_np sb1 14 (by kernel_rfl) (by kernel_rfl) ?_
 refine E_rd 0 ?_; refine E_rd 1 ?_; refine E_rd 2 ?_; refine E_rd 3 ?_; refine E_rd 4 ?_; refine E_rd 5 ?_; refine E_rd 6 ?_; refine E_rd 7 ?_
 obtain ⟨M', hM1⟩ : ∃ M', (w.heap.size + 1) :: M = M' := ⟨_, rfl⟩
 obtain ⟨wc, hwc⟩ : ∃ V, (W1).drew = V := ⟨_, rfl⟩
 have trM : Bel ((w.heap.size + 1) :: M) W1 → Bel M' wc := fun h => by rw [← hM1, ← hwc]; exact h
 have tr : ∀ {r : Rt} {p q : Bool} {A : Option Addr} {n c : Nat} {B : Option Addr} {m d : Nat}, QC W1 ((w.heap.size + 1) :: M) r p q A n c B m d → QC wc M' r p q A n c B m d := fun h => by rw [← hM1, ← hwc]; exact h.drew
 have FC := Hd (hwc ▸ (F.out).drew)
 have BC := Hd (show Below W1.heap.size W1 wc by rw [← hwc]; exact (Below.refl _ _).drew)
 rw [hwc]
 clear hwc
 iterate 2 (all_goals (refine E_by [8, 12] (A_c ?_ (A_c ?_ A_n)) <;> (first
  | exact Arm.no
  | (refine Arm.mk 8 fun K hK => ?_
     gi_wp2; refine Cm (rqMul_any (M := M') (a := decQ r) (b := (regG regs ka).1) (trM X.out.2.2.2.2) (tr X.out.2.2.1).qw (tr X.out.1).qw HO.out.2.1 HO.out.1.1.1 (HO.out.2.2.fine HO.out.1.1.2)) ?_; rintro e wc ⟨u2, rfl, z2, hb2⟩; obtain ⟨p21, q21, A21, n21, c21, B21, m21, d21, rfl, qc9⟩ := QC.of z2; have QZ := Hd qc9; replace FC := Hd (FC.out.go hb2); replace BC := Hd (BC.out.trans (hb2.mono BC.out.size)); refine hK _ _ ⟨?_, ?_⟩; clear hK K
     · exact Keeps.of_below hb2 _
     refine lit ?_; clear z2 hb2 qc9 trM tr
     refine E_rd 9 ?_; refine E_rd 10 ?_; refine E_rd 11 ?_)
  | (refine Arm.mk 12 fun K hK => ?_
     obtain ⟨y21, hy⟩ : ∃ y, wc.heap.size = y := ⟨_, rfl⟩
     obtain ⟨wc, hV, hb2, FV⟩ := nam2 (w := wc) (FC.out.a4 y21 31 hy.symm)
     obtain ⟨M', hM2⟩ : ∃ N, y21 :: M' = N := ⟨_, rfl⟩
     have hl := Nat.le_of_eq hy
     first
      | replace trM : Bel ((w.heap.size + 1) :: M) W1 → Bel M' wc := fun h => by rw [← hM2]; exact (Bel.le (trM h) hb2.size).cons FV.lst
        replace tr : ∀ {r : Rt} {p q : Bool} {A : Option Addr} {n c : Nat} {B : Option Addr} {m d : Nat}, QC W1 ((w.heap.size + 1) :: M) r p q A n c B m d → QC wc M' r p q A n c B m d := fun h => by rw [← hM2]; exact ((tr h).more hl).go hb2
      | (replace QZ := Hd ((QZ.out.more hl).go hb2); rw [hM2] at QZ)
     replace FC := Hd FV; have HY := Hd (hy ▸ BC.out.size); replace BC := Hd (BC.out.trans (hb2.mono BC.out.size)); gi_wp2; refine ⟨Keeps.of_below hb2 _, ?_⟩; refine lit ?_
     try rw [hy]
     clear FV hV hy hl hb2))))
 all_goals
  subst hM2; subst hM1; have HZ := Hd4 FC.out QZ.out BC.out HY.out; clear FC QZ BC HY
 all_goals
  clear v0 v1 v2 v3 v8 v9 v10 v11 v12; obtain ⟨W3, hW3, F6, hB6, kp6⟩ := Fr.put4 (y := y21) HZ.out.1 (fun b vs hm => Nat.ne_of_lt (Nat.lt_of_lt_of_le ((F.out).lt b vs hm) HZ.out.2.2.2)) (.bool p21) (.slice A21 n21 c21) (.bool q21) (.slice B21 m21 d21); have FZ := HZ.out.1; refine op1 FZ ?_; intros; refine op1 F6 ?_; intros; have HS1 := Hd3 F6 (HZ.out.2.1.keepY kp6) (hB6 _ _ HZ.out.2.2.2 HZ.out.2.2.1); have kU := Keeps.of_one (s := sb1) kp6 (Hsb1.out ▸ HZ.out.2.2.2); clear FZ F6 hB6 kp6 HZ
  refine E_al 13 fun K hK => ?_; gi_wp2
  refine ⟨kU, ?_⟩; refine lit ?_; clear kU
  refine E_nl 1 ?_; refine tls fun K hK K' hK' => ?_; gi_wp2; refine tail_nil _ ?_; simp only [npost]; gi_wp2
  obtain ⟨h0, h1, h2, h3, h4, h5, h6, h7⟩ := X.out.2.2.2.1.go HS1.out.2.2; have hins := HS1.out.1.nth 0
  obtain ⟨sb2, hsb2⟩ : ∃ s, W3.heap.size = s := ⟨_, rfl⟩
  have Hsb2 := Hd hsb2; clear hsb2; have v0 := stays_s Hsb2.out h4; have v1 := stays_s Hsb2.out h5; have v2 := stays_s Hsb2.out h6; have v3 := stays_s Hsb2.out h7; have v8 := stays_s Hsb2.out (hins 1 _ rfl); have v9 := stays_s Hsb2.out (hins 5 _ rfl); have v10 := stays_s Hsb2.out (hins 6 _ rfl); have v11 := stays_s Hsb2.out (hins 7 _ rfl); have v12 := stays_s Hsb2.out (hins 8 _ rfl); clear h0 h1 h2 h3 h4 h5 h6 h7 hins hW3; refine region_E_np sb2 14 (by kernel_rfl) (by kernel_rfl) ?_; refine E_rd 0 ?_; refine E_rd 1 ?_; refine E_rd 2 ?_; refine E_rd 3 ?_; refine E_rd 4 ?_; refine E_rd 5 ?_; refine E_rd 6 ?_; refine E_rd 7 ?_
  obtain ⟨M', hM1⟩ : ∃ M', (w.heap.size + 1) :: M = M' := ⟨_, rfl⟩
  obtain ⟨wc, hwc⟩ : ∃ V, (W3).drew = V := ⟨_, rfl⟩
  have trM : Bel ((w.heap.size + 1) :: M) W3 → Bel M' wc := fun h => by rw [← hM1, ← hwc]; exact h
  have tr : ∀ {r : Rt} {p q : Bool} {A : Option Addr} {n c : Nat} {B : Option Addr} {m d : Nat}, QC W3 ((w.heap.size + 1) :: M) r p q A n c B m d → QC wc M' r p q A n c B m d := fun h => by rw [← hM1, ← hwc]; exact h.drew
  have FC := Hd (hwc ▸ (HS1.out.1).drew); have BC := Hd (show Below W3.heap.size W3 wc by rw [← hwc]; exact (Below.refl _ _).drew); rw [hwc]; clear hwc
  iterate 2 (all_goals (refine E_by [8, 12] (A_c ?_ (A_c ?_ A_n)) <;> (first
   | exact Arm.no
   | (refine Arm.mk 8 fun K hK => ?_
      gi_wp2; refine Cm (rqMul_any (M := M') (a := decQ r) (b := (regG regs ka).2) (trM (Bel.le X.out.2.2.2.2 HS1.out.2.2.size)) (tr (X.out.2.2.1.go HS1.out.2.2)).qw (tr (X.out.2.1.go HS1.out.2.2)).qw HO.out.2.1 HO.out.1.2.1 (HO.out.2.2.fine HO.out.1.2.2)) ?_; rintro e wc ⟨u2, rfl, z2, hb2⟩; obtain ⟨p22, q22, A22, n22, c22, B22, m22, d22, rfl, qc9⟩ := QC.of z2; have QZ := Hd qc9; replace FC := Hd (FC.out.go hb2); replace BC := Hd (BC.out.trans (hb2.mono BC.out.size)); refine hK _ _ ⟨?_, ?_⟩; clear hK K
      · exact Keeps.of_below hb2 _
      refine lit ?_; clear z2 hb2 qc9 trM tr
      refine E_rd 9 ?_; refine E_rd 10 ?_; refine E_rd 11 ?_)
   | (refine Arm.mk 12 fun K hK => ?_
      obtain ⟨y22, hy⟩ : ∃ y, wc.heap.size = y := ⟨_, rfl⟩
      obtain ⟨wc, hV, hb2, FV⟩ := nam2 (w := wc) (FC.out.a4 y22 31 hy.symm)
      obtain ⟨M', hM2⟩ : ∃ N, y22 :: M' = N := ⟨_, rfl⟩
      have hl := Nat.le_of_eq hy
      first
       | replace trM : Bel ((w.heap.size + 1) :: M) W3 → Bel M' wc := fun h => by rw [← hM2]; exact (Bel.le (trM h) hb2.size).cons FV.lst
         replace tr : ∀ {r : Rt} {p q : Bool} {A : Option Addr} {n c : Nat} {B : Option Addr} {m d : Nat}, QC W3 ((w.heap.size + 1) :: M) r p q A n c B m d → QC wc M' r p q A n c B m d := fun h => by rw [← hM2]; exact ((tr h).more hl).go hb2
       | (replace QZ := Hd ((QZ.out.more hl).go hb2); rw [hM2] at QZ)
      replace FC := Hd FV; have HY := Hd (hy ▸ BC.out.size); replace BC := Hd (BC.out.trans (hb2.mono BC.out.size)); gi_wp2; refine ⟨Keeps.of_below hb2 _, ?_⟩; refine lit ?_
      try rw [hy]
      clear FV hV hy hl hb2))))
  all_goals
   subst hM2; subst hM1; have HZ := Hd4 FC.out QZ.out BC.out HY.out; clear FC QZ BC HY
  all_goals
   clear v0 v1 v2 v3 v8 v9 v10 v11 v12; obtain ⟨W4, hW4, F6, hB6, kp6⟩ := Fr.put4 (y := y22) HZ.out.1 (fun b vs hm => Nat.ne_of_lt (Nat.lt_of_lt_of_le ((HS1.out.1).lt b vs hm) HZ.out.2.2.2)) (.bool p22) (.slice A22 n22 c22) (.bool q22) (.slice B22 m22 d22); have FZ := HZ.out.1; refine op1 FZ ?_; intros; refine op1 F6 ?_; intros; have HS2 := Hd3 F6 (HZ.out.2.1.keepY kp6) (hB6 _ _ HZ.out.2.2.2 HZ.out.2.2.1); have kU := Keeps.of_one (s := sb2) kp6 (Hsb2.out ▸ HZ.out.2.2.2); clear FZ F6 hB6 kp6 HZ
   refine E_al 13 fun K hK => ?_; gi_wp2
   refine ⟨kU, ?_⟩; refine lit ?_; clear kU
   refine E_nl 1 ?_; refine tls fun K hK K' hK' => ?_; gi_wp2; refine tail_nil _ ?_; simp only [npost]; gi_wp2
   refine Cl 77 (sspan_any (M := (w.heap.size + 1) :: M) (HS1.out.2.1.go HS2.out.2.2).qw HS2.out.2.1.qw) ?_; rintro e w9 ⟨u9, rfl, ⟨p8, q8, A8, n8, c8, B8, m8, d8, p9, q9, A9, n9, c9, B9, m9, d9, rfl, qlo, qhi⟩, hb9⟩; have F9 := HS2.out.1.go hb9; refine op1 F9 ?_; intros; have G9 := Hd3 F9 qlo qhi; clear F9 qlo qhi hb9; gi_wp2; have hz := G9.out.1.nth 1; obtain ⟨wF, hwF, ⟨t0, t1, t2, t3⟩, ⟨t4, t5, t6, t7⟩, hG, bF⟩ := fin8 (M := M) (hz 0 _ rfl) (hz 1 _ rfl) (hz 2 _ rfl) (hz 3 _ rfl) (hz 4 _ rfl) (hz 5 _ rfl) (hz 6 _ rfl) (hz 7 _ rfl) (x := (mulQ (decQ r) (regG regs ka).1, mulQ (decQ r) (regG regs ka).2)) G9.out.2.1 G9.out.2.2 G9.out.1.bl (by omega); rw [hwF]; rw [HE.out]; exact ⟨rfl, .tuple #[.agg #[.bool p8, .slice A8 n8 c8, .bool q8, .slice B8 m8 d8, .bool p9, .slice A9 n9 c9, .bool q9, .slice B9 m9 d9], .int .i64 0], by simp [results, go_sem, t0, t1, t2, t3, t4, t5, t6, t7], _, rfl, hG, bF⟩
set_option maxRecDepth 20000 in
set_option maxHeartbeats 32000000 in
theorem sstp5_neg {ka : Nat} (hM : Bel M w) (hx : XC w M r true q A1 n1 c1 A2 n2 c2) (hr : ratOk r = true) (sr : Sh (decQ r)) (hl : SlG w M B m l regs) (hka : ka < m) (oa : OkG (regG regs ka)) :
 Calls Tryz.prog 37 #[.agg #[.int .i64 5, .int .i64 (ka : Int), .int .i64 b, .int .i64 x3, .int .i64 x4, .bool true, .slice A1 n1 c1, .bool q, .slice A2 n2 c2], .slice A n c, .slice B m l] w (GR w M (mulG (decQ r) (regG regs ka))) := by
 refine wid ?_
 have hneg : zneg (decQ r).num = true := (hx.qc hr).num.neg
 have HE := Hd (show mulG (decQ r) (regG regs ka) = (mulQ (decQ r) (regG regs ka).2, mulQ (decQ r) (regG regs ka).1) by
  unfold mulG
  rw [if_pos (by simp [zneg] at hneg; omega), mulQ_comm (regG regs ka).1, mulQ_comm (regG regs ka).2])
 obtain ⟨W1, hW1, F1⟩ := nam (((Fr.nil w).a w.heap.size [.int .i64 5, .int .i64 (ka : Int), .int .i64 b, .int .i64 x3, .int .i64 x4, .bool true, .slice A1 n1 c1, .bool q, .slice A2 n2 c2] 55).a8 (w.heap.size + 1) 33)
 have FO := F1
 refine op1 FO ?_; intros
 have hx1 := (hx.more (k := w.heap.size + 1) (by omega)).go F1.bl
 have hM1 : Bel ((w.heap.size + 1) :: M) W1 := (hM.le F1.bl.size).cons (F1.ltn 1)
 have F := Hd F1
 have hins := F1.nth 0
 have hz := F1.nth 1
 clear hx hM F1 FO
 have hl1 : SlG W1 ((w.heap.size + 1) :: M) B m l regs := (hl.more (b := w.heap.size + 1) (by omega)).go F.out.bl
 have hsm := hl1.small
 clear hl hneg
 obtain ⟨b3, o3, p3, q3, A3, n3, c3, B3, m3, d3, p4, q4, A4, n4, c4, B4, m4, d4, rfl, ⟨h0, h1, h2, h3⟩, ⟨h4, h5, h6, h7⟩, alo, ahi⟩ := hl1.at_ hka
 have X := Hd5 alo ahi (hx1.qc hr) (show C8 W1 b3 (o3 + ka * 8) _ _ _ _ _ _ _ _ from ⟨h0, h1, h2, h3, h4, h5, h6, h7⟩) hM1
 have HO := Hd3 oa (decQ_ok hr) sr
 obtain ⟨sb1, hsb1⟩ : ∃ s, W1.heap.size = s := ⟨_, rfl⟩
 have Hsb1 := Hd hsb1
 clear hsb1
 have v0 := stays_s Hsb1.out h0
 have v1 := stays_s Hsb1.out h1
 have v2 := stays_s Hsb1.out h2
 have v3 := stays_s Hsb1.out h3
 have v8 := stays_s Hsb1.out (hins 1 _ rfl)
 have v9 := stays_s Hsb1.out (hins 5 _ rfl)
 have v10 := stays_s Hsb1.out (hins 6 _ rfl)
 have v11 := stays_s Hsb1.out (hins 7 _ rfl)
 have v12 := stays_s Hsb1.out (hins 8 _ rfl)
 clear hx1 hM1 alo ahi h0 h1 h2 h3 h4 h5 h6 h7 oa hins hz hl1 sr hr
 refine ent Tryz.func37 rfl Tryz.ntmps37 ?_
 gi_wp2
 refine region_E_np sb1 14 (by kernel_rfl) (by kernel_rfl) ?_
 refine E_rd 0 ?_; refine E_rd 1 ?_; refine E_rd 2 ?_; refine E_rd 3 ?_; refine E_rd 4 ?_; refine E_rd 5 ?_; refine E_rd 6 ?_; refine E_rd 7 ?_
 obtain ⟨M', hM1⟩ : ∃ M', (w.heap.size + 1) :: M = M' := ⟨_, rfl⟩
 obtain ⟨wc, hwc⟩ : ∃ V, (W1).drew = V := ⟨_, rfl⟩
 have trM : Bel ((w.heap.size + 1) :: M) W1 → Bel M' wc := fun h => by rw [← hM1, ← hwc]; exact h
 have tr : ∀ {r : Rt} {p q : Bool} {A : Option Addr} {n c : Nat} {B : Option Addr} {m d : Nat}, QC W1 ((w.heap.size + 1) :: M) r p q A n c B m d → QC wc M' r p q A n c B m d := fun h => by rw [← hM1, ← hwc]; exact h.drew
 have FC := Hd (hwc ▸ (F.out).drew)
 have BC := Hd (show Below W1.heap.size W1 wc by rw [← hwc]; exact (Below.refl _ _).drew)
 rw [hwc]
 clear hwc
 iterate 2 (all_goals (refine E_by [8, 12] (A_c ?_ (A_c ?_ A_n)) <;> (first
  | exact Arm.no
  | (refine Arm.mk 8 fun K hK => ?_
     gi_wp2; refine Cm (rqMul_any (M := M') (a := decQ r) (b := (regG regs ka).1) (trM X.out.2.2.2.2) (tr X.out.2.2.1).qw (tr X.out.1).qw HO.out.2.1 HO.out.1.1.1 (HO.out.2.2.fine HO.out.1.1.2)) ?_; rintro e wc ⟨u2, rfl, z2, hb2⟩; obtain ⟨p21, q21, A21, n21, c21, B21, m21, d21, rfl, qc9⟩ := QC.of z2; have QZ := Hd qc9; replace FC := Hd (FC.out.go hb2); replace BC := Hd (BC.out.trans (hb2.mono BC.out.size)); refine hK _ _ ⟨?_, ?_⟩; clear hK K
     · exact Keeps.of_below hb2 _
     refine lit ?_; clear z2 hb2 qc9 trM tr
     refine E_rd 9 ?_; refine E_rd 10 ?_; refine E_rd 11 ?_)
  | (refine Arm.mk 12 fun K hK => ?_
     obtain ⟨y21, hy⟩ : ∃ y, wc.heap.size = y := ⟨_, rfl⟩
     obtain ⟨wc, hV, hb2, FV⟩ := nam2 (w := wc) (FC.out.a4 y21 31 hy.symm)
     obtain ⟨M', hM2⟩ : ∃ N, y21 :: M' = N := ⟨_, rfl⟩
     have hl := Nat.le_of_eq hy
     first
      | replace trM : Bel ((w.heap.size + 1) :: M) W1 → Bel M' wc := fun h => by rw [← hM2]; exact (Bel.le (trM h) hb2.size).cons FV.lst
        replace tr : ∀ {r : Rt} {p q : Bool} {A : Option Addr} {n c : Nat} {B : Option Addr} {m d : Nat}, QC W1 ((w.heap.size + 1) :: M) r p q A n c B m d → QC wc M' r p q A n c B m d := fun h => by rw [← hM2]; exact ((tr h).more hl).go hb2
      | (replace QZ := Hd ((QZ.out.more hl).go hb2); rw [hM2] at QZ)
     replace FC := Hd FV; have HY := Hd (hy ▸ BC.out.size); replace BC := Hd (BC.out.trans (hb2.mono BC.out.size)); gi_wp2; refine ⟨Keeps.of_below hb2 _, ?_⟩; refine lit ?_
     try rw [hy]
     clear FV hV hy hl hb2))))
 all_goals
  subst hM2; subst hM1; have HZ := Hd4 FC.out QZ.out BC.out HY.out; clear FC QZ BC HY
 all_goals
  clear v0 v1 v2 v3 v8 v9 v10 v11 v12; obtain ⟨W3, hW3, F6, hB6, kp6⟩ := Fr.put4 (y := y21) HZ.out.1 (fun b vs hm => Nat.ne_of_lt (Nat.lt_of_lt_of_le ((F.out).lt b vs hm) HZ.out.2.2.2)) (.bool p21) (.slice A21 n21 c21) (.bool q21) (.slice B21 m21 d21); have FZ := HZ.out.1; refine op1 FZ ?_; intros; refine op1 F6 ?_; intros; have HS1 := Hd3 F6 (HZ.out.2.1.keepY kp6) (hB6 _ _ HZ.out.2.2.2 HZ.out.2.2.1); have kU := Keeps.of_one (s := sb1) kp6 (Hsb1.out ▸ HZ.out.2.2.2); clear FZ F6 hB6 kp6 HZ
  refine E_al 13 fun K hK => ?_; gi_wp2
  refine ⟨kU, ?_⟩; refine lit ?_; clear kU
  refine E_nl 1 ?_; refine tls fun K hK K' hK' => ?_; gi_wp2; refine tail_nil _ ?_; simp only [npost]; gi_wp2
  obtain ⟨h0, h1, h2, h3, h4, h5, h6, h7⟩ := X.out.2.2.2.1.go HS1.out.2.2; have hins := HS1.out.1.nth 0
  obtain ⟨sb2, hsb2⟩ : ∃ s, W3.heap.size = s := ⟨_, rfl⟩
  have Hsb2 := Hd hsb2; clear hsb2; have v0 := stays_s Hsb2.out h4; have v1 := stays_s Hsb2.out h5; have v2 := stays_s Hsb2.out h6; have v3 := stays_s Hsb2.out h7; have v8 := stays_s Hsb2.out (hins 1 _ rfl); have v9 := stays_s Hsb2.out (hins 5 _ rfl); have v10 := stays_s Hsb2.out (hins 6 _ rfl); have v11 := stays_s Hsb2.out (hins 7 _ rfl); have v12 := stays_s Hsb2.out (hins 8 _ rfl); clear h0 h1 h2 h3 h4 h5 h6 h7 hins hW3; refine region_E_np sb2 14 (by kernel_rfl) (by kernel_rfl) ?_; refine E_rd 0 ?_; refine E_rd 1 ?_; refine E_rd 2 ?_; refine E_rd 3 ?_; refine E_rd 4 ?_; refine E_rd 5 ?_; refine E_rd 6 ?_; refine E_rd 7 ?_
  obtain ⟨M', hM1⟩ : ∃ M', (w.heap.size + 1) :: M = M' := ⟨_, rfl⟩
  obtain ⟨wc, hwc⟩ : ∃ V, (W3).drew = V := ⟨_, rfl⟩
  have trM : Bel ((w.heap.size + 1) :: M) W3 → Bel M' wc := fun h => by rw [← hM1, ← hwc]; exact h
  have tr : ∀ {r : Rt} {p q : Bool} {A : Option Addr} {n c : Nat} {B : Option Addr} {m d : Nat}, QC W3 ((w.heap.size + 1) :: M) r p q A n c B m d → QC wc M' r p q A n c B m d := fun h => by rw [← hM1, ← hwc]; exact h.drew
  have FC := Hd (hwc ▸ (HS1.out.1).drew); have BC := Hd (show Below W3.heap.size W3 wc by rw [← hwc]; exact (Below.refl _ _).drew); rw [hwc]; clear hwc
  iterate 2 (all_goals (refine E_by [8, 12] (A_c ?_ (A_c ?_ A_n)) <;> (first
   | exact Arm.no
   | (refine Arm.mk 8 fun K hK => ?_
      gi_wp2; refine Cm (rqMul_any (M := M') (a := decQ r) (b := (regG regs ka).2) (trM (Bel.le X.out.2.2.2.2 HS1.out.2.2.size)) (tr (X.out.2.2.1.go HS1.out.2.2)).qw (tr (X.out.2.1.go HS1.out.2.2)).qw HO.out.2.1 HO.out.1.2.1 (HO.out.2.2.fine HO.out.1.2.2)) ?_; rintro e wc ⟨u2, rfl, z2, hb2⟩; obtain ⟨p22, q22, A22, n22, c22, B22, m22, d22, rfl, qc9⟩ := QC.of z2; have QZ := Hd qc9; replace FC := Hd (FC.out.go hb2); replace BC := Hd (BC.out.trans (hb2.mono BC.out.size)); refine hK _ _ ⟨?_, ?_⟩; clear hK K
      · exact Keeps.of_below hb2 _
      refine lit ?_; clear z2 hb2 qc9 trM tr
      refine E_rd 9 ?_; refine E_rd 10 ?_; refine E_rd 11 ?_)
   | (refine Arm.mk 12 fun K hK => ?_
      obtain ⟨y22, hy⟩ : ∃ y, wc.heap.size = y := ⟨_, rfl⟩
      obtain ⟨wc, hV, hb2, FV⟩ := nam2 (w := wc) (FC.out.a4 y22 31 hy.symm)
      obtain ⟨M', hM2⟩ : ∃ N, y22 :: M' = N := ⟨_, rfl⟩
      have hl := Nat.le_of_eq hy
      first
       | replace trM : Bel ((w.heap.size + 1) :: M) W3 → Bel M' wc := fun h => by rw [← hM2]; exact (Bel.le (trM h) hb2.size).cons FV.lst
         replace tr : ∀ {r : Rt} {p q : Bool} {A : Option Addr} {n c : Nat} {B : Option Addr} {m d : Nat}, QC W3 ((w.heap.size + 1) :: M) r p q A n c B m d → QC wc M' r p q A n c B m d := fun h => by rw [← hM2]; exact ((tr h).more hl).go hb2
       | (replace QZ := Hd ((QZ.out.more hl).go hb2); rw [hM2] at QZ)
      replace FC := Hd FV; have HY := Hd (hy ▸ BC.out.size); replace BC := Hd (BC.out.trans (hb2.mono BC.out.size)); gi_wp2; refine ⟨Keeps.of_below hb2 _, ?_⟩; refine lit ?_
      try rw [hy]
      clear FV hV hy hl hb2))))
  all_goals
   subst hM2; subst hM1; have HZ := Hd4 FC.out QZ.out BC.out HY.out; clear FC QZ BC HY
  all_goals
   clear v0 v1 v2 v3 v8 v9 v10 v11 v12; obtain ⟨W4, hW4, F6, hB6, kp6⟩ := Fr.put4 (y := y22) HZ.out.1 (fun b vs hm => Nat.ne_of_lt (Nat.lt_of_lt_of_le ((HS1.out.1).lt b vs hm) HZ.out.2.2.2)) (.bool p22) (.slice A22 n22 c22) (.bool q22) (.slice B22 m22 d22); have FZ := HZ.out.1; refine op1 FZ ?_; intros; refine op1 F6 ?_; intros; have HS2 := Hd3 F6 (HZ.out.2.1.keepY kp6) (hB6 _ _ HZ.out.2.2.2 HZ.out.2.2.1); have kU := Keeps.of_one (s := sb2) kp6 (Hsb2.out ▸ HZ.out.2.2.2); clear FZ F6 hB6 kp6 HZ
   refine E_al 13 fun K hK => ?_; gi_wp2
   refine ⟨kU, ?_⟩; refine lit ?_; clear kU
   refine E_nl 1 ?_; refine tls fun K hK K' hK' => ?_; gi_wp2; refine tail_nil _ ?_; simp only [npost]; gi_wp2
   refine Cl 77 (sspan_any (M := (w.heap.size + 1) :: M) HS2.out.2.1.qw (HS1.out.2.1.go HS2.out.2.2).qw) ?_; rintro e w9 ⟨u9, rfl, ⟨p8, q8, A8, n8, c8, B8, m8, d8, p9, q9, A9, n9, c9, B9, m9, d9, rfl, qlo, qhi⟩, hb9⟩; have F9 := HS2.out.1.go hb9; refine op1 F9 ?_; intros; have G9 := Hd3 F9 qlo qhi; clear F9 qlo qhi hb9; gi_wp2; have hz := G9.out.1.nth 1; obtain ⟨wF, hwF, ⟨t0, t1, t2, t3⟩, ⟨t4, t5, t6, t7⟩, hG, bF⟩ := fin8 (M := M) (hz 0 _ rfl) (hz 1 _ rfl) (hz 2 _ rfl) (hz 3 _ rfl) (hz 4 _ rfl) (hz 5 _ rfl) (hz 6 _ rfl) (hz 7 _ rfl) (x := (mulQ (decQ r) (regG regs ka).2, mulQ (decQ r) (regG regs ka).1)) G9.out.2.1 G9.out.2.2 G9.out.1.bl (by omega); rw [hwF]; rw [HE.out]; exact ⟨rfl, .tuple #[.agg #[.bool p8, .slice A8 n8 c8, .bool q8, .slice B8 m8 d8, .bool p9, .slice A9 n9 c9, .bool q9, .slice B9 m9 d9], .int .i64 0], by simp [results, go_sem, t0, t1, t2, t3, t4, t5, t6, t7], _, rfl, hG, bF⟩
theorem sstp5_any (hM : Bel M w) (hx : XC w M r p q A1 n1 c1 A2 n2 c2) (hr : ratOk r = true) (sr : Sh (decQ r)) (hl : SlG w M B m l regs) (ha : belowB a m = true) (oa : OkG (regG regs a)) :
 Calls Tryz.prog 37 #[.agg #[.int .i64 5, .int .i64 a, .int .i64 b, .int .i64 x3, .int .i64 x4, .bool p, .slice A1 n1 c1, .bool q, .slice A2 n2 c2], .slice A n c, .slice B m l] w (GR w M (mulG (decQ r) (regG regs a))) := by
 obtain ⟨ka, rfl, hka⟩ := below_nat ha
 cases p
 · exact sstp5_pos hM hx hr sr hl hka oa
 · exact sstp5_neg hM hx hr sr hl hka oa
end
end Go.Proofs.YtboapndkopabiaaGreat.U
