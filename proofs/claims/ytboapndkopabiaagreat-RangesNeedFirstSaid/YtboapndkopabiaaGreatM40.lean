/- Lemmas and walks (San3). No statement is proved here. -/
import Derived.Test.YtboapndkopabiaaGreatM39
set_option linter.unusedVariables false
set_option linter.unusedSimpArgs false
namespace Go.Proofs.YtboapndkopabiaaGreat.U
open Go.RowKit Go.Shelf
attribute [local go_sem] Oper.semAt_some
attribute [-go_sem] Instr.storeAt
set_option maxRecDepth 100000 in
set_option maxHeartbeats 64000000 in
theorem sane_any (w : World) : Calls Tryz.prog 8 #[] w fun e w' => e = .returned (.bool true) ∧ Below w.heap.size w w' := by
 refine wid ?_
 obtain ⟨W1, hW1⟩ : ∃ V : World, (w.alloc (.cells #[.int .i64 0, .int .i64 0, .int .i64 0, .int .i64 0, .int .i64 0, .bool false, .slice none 0 0, .bool false, .slice none 0 0] 55)).alloc (.cells #[.int .i64 0, .int .i64 0, .int .i64 0, .int .i64 0, .int .i64 0, .bool false, .slice none 0 0, .bool false, .slice none 0 0] 55) = V := ⟨_, rfl⟩
 have R1 : RowV W1 w.heap.size (insC 0 0 0 0 0) 55 := by
  rw [← hW1]; have h1 : RowV (w.alloc (.cells #[.int .i64 0, .int .i64 0, .int .i64 0, .int .i64 0, .int .i64 0, .bool false, .slice none 0 0, .bool false, .slice none 0 0] 55)) w.heap.size (insC 0 0 0 0 0) 55 := heap_alloc_new w _; exact h1.go ((Below.refl _ _).alloc (Nat.le_refl _) _) h1.lt
 have R2 : RowV W1 (w.heap.size + 1) (insC 0 0 0 0 0) 55 := by
  rw [← hW1]; have := heap_alloc_new (w.alloc (.cells #[.int .i64 0, .int .i64 0, .int .i64 0, .int .i64 0, .int .i64 0, .bool false, .slice none 0 0, .bool false, .slice none 0 0] 55)) (.cells #[.int .i64 0, .int .i64 0, .int .i64 0, .int .i64 0, .int .i64 0, .bool false, .slice none 0 0, .bool false, .slice none 0 0] 55)
  simpa [RowV] using this
 obtain ⟨W2, hW2⟩ : ∃ V, W1.setRow w.heap.size (insC 2 0 0 0 0).toArray = V := ⟨_, rfl⟩
 have hst1 : (Instr.storeAt 55 (.pointer (some ⟨w.heap.size, 0, none⟩)) (.agg #[.int .i64 2, .int .i64 0, .int .i64 0, .int .i64 0, .int .i64 0, .bool false, .slice none 0 0, .bool false, .slice none 0 0])).run Tryz.prog W1 = .ok () W2 := by
  rw [← hW2]
  show (storeVar _ _ _).run _ _ = _
  exact run_storeVar_row W1 w.heap.size _ _ (insC 0 0 0 0 0).toArray (insC 2 0 0 0 0).toArray R1 ins_size rfl (by simp [Value.oneCell'])
 have Q1 : RowV W2 w.heap.size (insC 2 0 0 0 0) 55 := by rw [← hW2]; exact setRow_heap W1 _ _ _ _ (0, 0) R1
 have Q2 : RowV W2 (w.heap.size + 1) (insC 0 0 0 0 0) 55 := by rw [← hW2]; unfold RowV; rw [setRow_other W1 _ _ _ (by omega)]; exact R2
 obtain ⟨W3, hW3⟩ : ∃ V, W2.setRow (w.heap.size + 1) (insC 2 1 0 0 0).toArray = V := ⟨_, rfl⟩
 have hst2 : (Instr.storeAt 55 (.pointer (some ⟨w.heap.size + 1, 0, none⟩)) (.agg #[.int .i64 2, .int .i64 1, .int .i64 0, .int .i64 0, .int .i64 0, .bool false, .slice none 0 0, .bool false, .slice none 0 0])).run Tryz.prog W2 = .ok () W3 := by
  rw [← hW3]
  show (storeVar _ _ _).run _ _ = _
  exact run_storeVar_row W2 (w.heap.size + 1) _ _ (insC 0 0 0 0 0).toArray (insC 2 1 0 0 0).toArray Q2 ins_size rfl (by simp [Value.oneCell'])
 have T1 : RowV W3 w.heap.size (insC 2 0 0 0 0) 55 := by rw [← hW3]; unfold RowV; rw [setRow_other W2 _ _ _ (by omega)]; exact Q1
 have T2 : RowV W3 (w.heap.size + 1) (insC 2 1 0 0 0) 55 := by rw [← hW3]; exact setRow_heap W2 _ _ _ _ (0, 0) Q2
 have B1 : Below w.heap.size w W1 := by rw [← hW1]; exact bel
 have B3 : Below w.heap.size w W3 := by
  rw [← hW3, ← hW2]; exact ⟨B1.os, B1.tape, B1.output, by simpa using B1.size, fun k hk => by rw [setRow_other _ _ k _ (by omega), setRow_other _ _ k _ (by omega)]; exact B1.block k hk⟩
 obtain ⟨W4, hW4⟩ : ∃ V : World, W3.alloc (.cells #[.int .i64 2, .int .i64 0, .int .i64 0, .int .i64 0, .int .i64 0, .bool false, .slice none 0 0, .bool false, .slice none 0 0, .int .i64 2, .int .i64 1, .int .i64 0, .int .i64 0, .int .i64 0, .bool false, .slice none 0 0, .bool false, .slice none 0 0, .int .i64 8, .int .i64 0, .int .i64 1, .int .i64 0, .int .i64 1, .bool false, .slice none 0 0, .bool false, .slice none 0 0] 55) = V := ⟨_, rfl⟩
 have B4 : Below W3.heap.size W3 W4 := by rw [← hW4]; exact bel
 have HS : Hid (SF w W4 W3.heap.size) := Hd ⟨T1.go B4 T1.lt, T2.go B4 T2.lt, by rw [← hW4]; exact lit3 (Bel.nil _) _ rd_iF rd_iS rd_iSel, B3.trans (B4.mono B3.size)⟩
 have v0 := T1.cell (k := 0) rfl
 have v1 := T1.cell (k := 1) rfl
 have v2 := T1.cell (k := 2) rfl
 have v3 := T1.cell (k := 3) rfl
 have v4 := T1.cell (k := 4) rfl
 have v5 := T1.cell (k := 5) rfl
 have v6 := T1.cell (k := 6) rfl
 have v7 := T1.cell (k := 7) rfl
 have v8 := T1.cell (k := 8) rfl
 have u0 := T2.cell (k := 0) rfl
 have u1 := T2.cell (k := 1) rfl
 have u2 := T2.cell (k := 2) rfl
 have u3 := T2.cell (k := 3) rfl
 have u4 := T2.cell (k := 4) rfl
 have u5 := T2.cell (k := 5) rfl
 have u6 := T2.cell (k := 6) rfl
 have u7 := T2.cell (k := 7) rfl
 have u8 := T2.cell (k := 8) rfl
 clear R1 R2 Q1 Q2 T1 T2 B1 B3 B4
 refine ent Tryz.func8 rfl Tryz.ntmps8 ?_
 gi_wp2
 refine Cl 24 (ln_any (M := []) (x := (-6)) (Bel.nil _) (by unfold i64; omega)) ?_
 rintro e w11 ⟨u1, rfl, z1, hb1⟩
 obtain ⟨p01, q01, A01, n01, c01, B01, m01, d01, rfl, qq1⟩ := QC.of z1
 have N1 := Hd qq1
 clear z1 qq1
 have HS := Hd (HS.out.go hb1)
 clear hb1
 gi_wp2
 refine Cl 23 (rq_ok (M := []) (Bel.nil _) N1.out.qw (one_ok _ (by decide))) ?_
 rintro e w12 ⟨rfl, hb2⟩
 have HS := Hd (HS.out.go hb2)
 have N1 := Hd (N1.out.go hb2)
 clear hb2
 gi_wp2
 refine Cl 24 (ln_any (M := []) (x := (-6)) (Bel.nil _) (by unfold i64; omega)) ?_
 rintro e w13 ⟨u3, rfl, z3, hb3⟩
 obtain ⟨p03, q03, A03, n03, c03, B03, m03, d03, rfl, qq3⟩ := QC.of z3
 have N3 := Hd qq3
 clear z3 qq3
 have HS := Hd (HS.out.go hb3)
 clear hb3
 gi_wp2
 refine Cl 26 (rint_any (M := []) (x := (-6)) (Bel.nil _) (by unfold i64; omega)) ?_
 rintro e w14 ⟨u4, rfl, z4, hb4⟩
 obtain ⟨p04, q04, A04, n04, c04, B04, m04, d04, rfl, qq4⟩ := QC.of z4
 have N4 := Hd qq4
 clear z4 qq4
 have HS := Hd (HS.out.go hb4)
 have N3 := Hd (N3.out.go hb4)
 clear hb4
 gi_wp2
 refine Cl 25 (sameQ_any (x := encQ (I1 (-6))) (y := encQ (I1 (-6))) N3.out.qw.rv N4.out.qw.rv) ?_
 rintro e w15 ⟨rfl, hb5⟩
 rw [decide_eq_true rfl]
 have HS := Hd (HS.out.go hb5)
 have N3 := Hd (N3.out.go hb5)
 have N4 := Hd (N4.out.go hb5)
 clear hb5
 gi_wp2
 refine Cl 11 (gout_any (M := []) (Bel.nil _) Sl.nil0 Sl.nil0 fewp.1 fewg0.1) ?_
 rintro e w16 hR
 obtain ⟨p16, A16, n16, c16, q16, B16, m16, d16, p26, A26, n26, c26, q26, B26, m26, d26, rfl, hg, hb⟩ := hR.cells
 rw [out1]
 obtain ⟨V6, hV6⟩ : ∃ V : World, w16.alloc (.cells #[.bool p16, .slice A16 n16 c16, .bool q16, .slice B16 m16 d16, .bool p26, .slice A26 n26 c26, .bool q26, .slice B26 m26 d26] 33) = V := ⟨_, rfl⟩
 have hst6 : (Instr.storeAt 33 (.pointer (some ⟨w16.heap.size, 0, none⟩)) (.agg #[.bool p16, .slice A16 n16 c16, .bool q16, .slice B16 m16 d16, .bool p26, .slice A26 n26 c26, .bool q26, .slice B26 m26 d26])).run Tryz.prog (w16.alloc (.cells #[.bool false, .slice none 0 0, .bool false, .slice none 0 0, .bool false, .slice none 0 0, .bool false, .slice none 0 0] 33)) = .ok () V6 := by rw [← hV6]; exact fill_run rng_size rfl (by simp [Value.oneCell'])
 have hb2 : Below w16.heap.size w16 V6 := by rw [← hV6]; exact bel
 have RK : RowV V6 w16.heap.size [.bool p16, .slice A16 n16 c16, .bool q16, .slice B16 m16 d16, .bool p26, .slice A26 n26 c26, .bool q26, .slice B26 m26 d26] 33 := by rw [← hV6]; exact heap_alloc_new w16 _
 have hbb := hb.trans (hb2.mono hb.size)
 have HS := Hd (HS.out.go hbb)
 clear hb hb2 hbb hg hR RK
 gi_wp2
 refine region_merge [53, 54, 55, 56, 57, 58, 59, 60, 6, 7] (fun f w' => f 7 = .int .i64 200 ∧ Below V6.heap.size V6 w') ?_ ?_
 · obtain ⟨sb1, hsb1⟩ : ∃ s, V6.heap.size = s := ⟨_, rfl⟩
   have Hsb1 := Hd hsb1; clear hsb1; have v0 := stays_s Hsb1.out (HS.out.rf.cell (k := 0) rfl); have v1 := stays_s Hsb1.out (HS.out.rf.cell (k := 1) rfl); have v2 := stays_s Hsb1.out (HS.out.rf.cell (k := 2) rfl); have v3 := stays_s Hsb1.out (HS.out.rf.cell (k := 3) rfl); have v4 := stays_s Hsb1.out (HS.out.rf.cell (k := 4) rfl); have v5 := stays_s Hsb1.out (HS.out.rf.cell (k := 5) rfl); have v6 := stays_s Hsb1.out (HS.out.rf.cell (k := 6) rfl); have v7 := stays_s Hsb1.out (HS.out.rf.cell (k := 7) rfl); have v8 := stays_s Hsb1.out (HS.out.rf.cell (k := 8) rfl); have fB := Hd (Bel.nil (V6).drew); have fr := Hd (Fr.nil V6).drew; refine region_E_np sb1 10 (by kernel_rfl) (by kernel_rfl) ?_; refine E_rd 0 ?_; generalize (V6).drew = x at fB fr ⊢
   iterate 6 (all_goals (refine E_by [1, 2, 3, 4, 8, 9] (A_c ?_ (A_c ?_ (A_c ?_ (A_c ?_ (A_c ?_ (A_c ?_ A_n)))))) <;> (first
    | exact Arm.no
    | (refine Arm.mk 1 fun K hK => ?_
       obtain ⟨x, hx, hb⟩ : ∃ V : World, x.alloc (.cells #[.int .i64 2, .int .i64 0, .int .i64 0, .int .i64 0, .int .i64 0, .bool false, .slice none 0 0, .bool false, .slice none 0 0] 55) = V ∧ Below x.heap.size x V := ⟨_, rfl, bel⟩
       have fPx := Hd (lit1x fB.out rd_iF hx); replace fB := Hd (Bel.le fB.out hb.size); replace fr := Hd (fr.out.go hb)
       try replace fP := Hd (fP.out.go hb)
       try replace fA := Hd (fA.out.go hb)
       try replace fQ := Hd (fQ.out.go hb)
       try replace fG := Hd2 (fG.out.1.go hb) (fG.out.2.go hb)
       have fP := fPx; clear fPx; gi_wp2; refine ⟨Keeps.of_below hb _, ?_⟩; refine lit ?_
       clear hb hx)
    | (refine Arm.mk 2 fun K hK => ?_
       gi_wp2; refine Cm (lfrom_any fB.out (by unfold i64; omega) (by unfold i64; omega)) ?_; rintro e x ⟨u, rfl, ⟨pf1, qf1, Af1, nf1, cf1, Bf1, mf1, df1, pf2, qf2, Af2, nf2, cf2, Bf2, mf2, df2, rfl, qlo, qhi⟩, hb⟩; replace fB := Hd (Bel.le fB.out hb.size); replace fr := Hd (fr.out.go hb)
       try replace fP := Hd (fP.out.go hb)
       try replace fA := Hd (fA.out.go hb)
       try replace fQ := Hd (fQ.out.go hb)
       try replace fG := Hd2 (fG.out.1.go hb) (fG.out.2.go hb)
       have fG := Hd2 qlo qhi; clear qlo qhi; refine hK _ _ ⟨?_, ?_⟩; clear hK K
       · exact Keeps.of_below hb _
       refine lit ?_
       clear hb)
    | (refine Arm.mk 3 fun K hK => ?_
       obtain ⟨x, hx, hb⟩ : ∃ V : World, x.alloc (.cells #[.bool pf1, .slice Af1 nf1 cf1, .bool qf1, .slice Bf1 mf1 df1, .bool pf2, .slice Af2 nf2 cf2, .bool qf2, .slice Bf2 mf2 df2] 33) = V ∧ Below x.heap.size x V := ⟨_, rfl, bel⟩
       have fAx := Hd (lit1x fB.out (rd_G (x := (I1 3, I1 1)) fG.out.1 fG.out.2) hx); replace fB := Hd (Bel.le fB.out hb.size); replace fr := Hd (fr.out.go hb)
       try replace fP := Hd (fP.out.go hb)
       try replace fA := Hd (fA.out.go hb)
       try replace fQ := Hd (fQ.out.go hb)
       try replace fG := Hd2 (fG.out.1.go hb) (fG.out.2.go hb)
       have fA := fAx; clear fAx; gi_wp2; refine ⟨Keeps.of_below hb _, ?_⟩; refine lit ?_
       clear hb hx)
    | (refine Arm.mk 4 fun K hK => ?_
       gi_wp2; refine Cm (gout_any fB.out fP.out fA.out fewp.2.1 (fewg1 _ _ (by decide) (by decide))) ?_; rintro e x hR; obtain ⟨po1, Ao1, no1, co1, qo1, Bo1, mo1, do1, po2, Ao2, no2, co2, qo2, Bo2, mo2, do2, rfl, hg, hb⟩ := hR.cells; rw [out2]; replace fB := Hd (Bel.le fB.out hb.size); replace fr := Hd (fr.out.go hb)
       try replace fP := Hd (fP.out.go hb)
       try replace fA := Hd (fA.out.go hb)
       try replace fQ := Hd (fQ.out.go hb)
       try replace fG := Hd2 (fG.out.1.go hb) (fG.out.2.go hb)
       have fO := Hd hg; clear hg hR; refine hK _ _ ⟨?_, ?_⟩; clear hK K
       · exact Keeps.of_below hb _
       refine lit ?_
       clear hb; refine E_rd 5 ?_; refine E_rd 6 ?_; refine E_rd 7 ?_)
    | (refine Arm.mk 8 fun K hK => ?_
       obtain ⟨y, hy⟩ : ∃ y, x.heap.size = y := ⟨_, rfl⟩
       obtain ⟨x, hx, hb, fy⟩ := nam2 (w := x) (fr.out.a8 y 33 hy.symm); have hyl := fy.lt1; have hle := Nat.le_of_eq hy; replace fr := Hd fy; clear fy; replace fB := Hd ((Bel.le fB.out hb.size).cons hyl)
       try replace fP := Hd ((fP.out.more hle).go hb)
       try replace fA := Hd ((fA.out.more hle).go hb)
       try replace fQ := Hd ((fQ.out.more hle).go hb)
       try replace fG := Hd2 ((fG.out.1.more hle).go hb) ((fG.out.2.more hle).go hb)
       try replace fO := Hd ((fO.out.more hle).go hb)
       clear hyl hle; gi_wp2; refine ⟨Keeps.of_below hb _, ?_⟩; refine lit ?_
       try rw [hy]
       clear hb hy hx)
    | (refine Arm.mk 9 fun K hK => ?_
       obtain ⟨x, hst, F, kp⟩ := fr.out.st8 po1 qo1 po2 qo2 Ao1 Bo1 Ao2 Bo2 no1 co1 mo1 do1 no2 co2 mo2 do2; have kU := Keeps.of_one (s := sb1) kp (Hsb1.out ▸ fr.out.ge1); have HV := Hd2 F ((GV.keep fO.out kp).less (M' := []) (by simp)); clear F kp; gi_wp2; refine ⟨kU, ?_⟩; refine lit ?_; clear kU hst; refine E_nil 1 (by kernel_rfl) rfl ?_
       refine tls fun K hK K' hK' => ?_; gi_wp2
       refine tail_nil _ ?_; simp only [npost]
       exact ⟨trivial, merge_leaf (R := fun f w' => f 7 = .int .i64 200 ∧ Below V6.heap.size V6 w') (by kernel_rfl) ⟨rfl, HV.out.1.bl⟩⟩))))
 rintro f w17 ⟨he, hb⟩
 have HS := Hd (HS.out.go hb)
 clear hb
 simp only [putAll, Act.put, List.setIfInBounds_toArray, List.set_cons_succ, List.set_cons_zero]
 rw [he]
 clear he
 have a0 := HS.out.rf.cell (k := 0) rfl
 have b0 := HS.out.rs.cell (k := 0) rfl
 have a1 := HS.out.rf.cell (k := 1) rfl
 have b1 := HS.out.rs.cell (k := 1) rfl
 have a2 := HS.out.rf.cell (k := 2) rfl
 have b2 := HS.out.rs.cell (k := 2) rfl
 have a3 := HS.out.rf.cell (k := 3) rfl
 have b3 := HS.out.rs.cell (k := 3) rfl
 have a4 := HS.out.rf.cell (k := 4) rfl
 have b4 := HS.out.rs.cell (k := 4) rfl
 have a5 := HS.out.rf.cell (k := 5) rfl
 have b5 := HS.out.rs.cell (k := 5) rfl
 have a6 := HS.out.rf.cell (k := 6) rfl
 have b6 := HS.out.rs.cell (k := 6) rfl
 have a7 := HS.out.rf.cell (k := 7) rfl
 have b7 := HS.out.rs.cell (k := 7) rfl
 have a8 := HS.out.rf.cell (k := 8) rfl
 have b8 := HS.out.rs.cell (k := 8) rfl
 obtain ⟨w18, hw18⟩ : ∃ V : World, w17.alloc (.cells #[.int .i64 2, .int .i64 0, .int .i64 0, .int .i64 0, .int .i64 0, .bool false, .slice none 0 0, .bool false, .slice none 0 0] 55) = V := ⟨_, rfl⟩
 have hb8 : Below w17.heap.size w17 w18 := by rw [← hw18]; exact bel
 have P7 := Hd (show Sl InsR w18 [] (some ⟨w17.heap.size, 0, none⟩) 1 1 [iF] from by rw [← hw18]; exact lit1 (Bel.nil _) _ rd_iF)
 have HS := Hd (HS.out.go hb8)
 clear hb8
 obtain ⟨w19, hw19⟩ : ∃ V : World, w18.alloc (.cells #[.bool false, .slice none 0 0, .bool false, .slice none 0 0, .bool false, .slice none 0 0, .bool false, .slice none 0 0] 33) = V := ⟨_, rfl⟩
 have hb9 : Below w18.heap.size w18 w19 := by rw [← hw19]; exact bel
 have A7 := Hd (show Sl RngR w19 [] (some ⟨w18.heap.size, 0, none⟩) 1 1 [zeroG] from by rw [← hw19]; exact lit1 (Bel.nil _) _ rd_G0)
 have HS := Hd (HS.out.go hb9)
 have P7 := Hd (P7.out.go hb9)
 clear hb9
 gi_wp2
 refine Cl 11 (gout_any (M := []) (Bel.nil _) P7.out A7.out fewp.2.1 fewg0.2) ?_
 rintro e w20 hR
 obtain ⟨p110, A110, n110, c110, q110, B110, m110, d110, p210, A210, n210, c210, q210, B210, m210, d210, rfl, hg, hb⟩ := hR.cells
 rw [out3]
 obtain ⟨V10, hV10⟩ : ∃ V : World, w20.alloc (.cells #[.bool p110, .slice A110 n110 c110, .bool q110, .slice B110 m110 d110, .bool p210, .slice A210 n210 c210, .bool q210, .slice B210 m210 d210] 33) = V := ⟨_, rfl⟩
 have hst10 : (Instr.storeAt 33 (.pointer (some ⟨w20.heap.size, 0, none⟩)) (.agg #[.bool p110, .slice A110 n110 c110, .bool q110, .slice B110 m110 d110, .bool p210, .slice A210 n210 c210, .bool q210, .slice B210 m210 d210])).run Tryz.prog (w20.alloc (.cells #[.bool false, .slice none 0 0, .bool false, .slice none 0 0, .bool false, .slice none 0 0, .bool false, .slice none 0 0] 33)) = .ok () V10 := by rw [← hV10]; exact fill_run rng_size rfl (by simp [Value.oneCell'])
 have hb2 : Below w20.heap.size w20 V10 := by rw [← hV10]; exact bel
 have RK : RowV V10 w20.heap.size [.bool p110, .slice A110 n110 c110, .bool q110, .slice B110 m110 d110, .bool p210, .slice A210 n210 c210, .bool q210, .slice B210 m210 d210] 33 := by rw [← hV10]; exact heap_alloc_new w20 _
 have hbb := hb.trans (hb2.mono hb.size)
 have HS := Hd (HS.out.go hbb)
 have P7 := Hd (P7.out.go hbb)
 have A7 := Hd (A7.out.go hbb)
 clear hb hb2 hbb hg hR RK
 gi_wp2
 refine region_merge [69, 70, 71, 72, 73, 74, 75, 76, 77, 78, 10, 11] (fun f w' => f 11 = .int .i64 0 ∧ Below V10.heap.size V10 w' ∧ ∃ y, f 10 = .pointer (some ⟨y, 0, none⟩) ∧ Var8 w' y (encG (I1 (-6), I1 (-2)))) ?_ ?_
 · obtain ⟨sb1, hsb1⟩ : ∃ s, V10.heap.size = s := ⟨_, rfl⟩
   have Hsb1 := Hd hsb1; clear hsb1; have v0 := stays_s Hsb1.out (HS.out.rf.cell (k := 0) rfl); have v1 := stays_s Hsb1.out (HS.out.rf.cell (k := 1) rfl); have v2 := stays_s Hsb1.out (HS.out.rf.cell (k := 2) rfl); have v3 := stays_s Hsb1.out (HS.out.rf.cell (k := 3) rfl); have v4 := stays_s Hsb1.out (HS.out.rf.cell (k := 4) rfl); have v5 := stays_s Hsb1.out (HS.out.rf.cell (k := 5) rfl); have v6 := stays_s Hsb1.out (HS.out.rf.cell (k := 6) rfl); have v7 := stays_s Hsb1.out (HS.out.rf.cell (k := 7) rfl); have v8 := stays_s Hsb1.out (HS.out.rf.cell (k := 8) rfl); have fB := Hd (Bel.nil (V10).drew); have fr := Hd (Fr.nil V10).drew; refine region_E_np sb1 12 (by kernel_rfl) (by kernel_rfl) ?_; refine E_rd 0 ?_; generalize (V10).drew = x at fB fr ⊢
   iterate 7 (all_goals (refine E_by [1, 3, 4, 5, 6, 10, 11] (A_c ?_ (A_c ?_ (A_c ?_ (A_c ?_ (A_c ?_ (A_c ?_ (A_c ?_ A_n))))))) <;> (first
    | exact Arm.no
    | (refine Arm.mk 1 fun K hK => ?_
       gi_wp2; refine Cm (ln_any fB.out (by unfold i64; omega)) ?_; rintro e x ⟨u, rfl, z, hb⟩; obtain ⟨p0, q0, A0, n0, c0, B0, m0, d0, rfl, qq⟩ := QC.of z; replace fB := Hd (Bel.le fB.out hb.size); replace fr := Hd (fr.out.go hb)
       try replace fP := Hd (fP.out.go hb)
       try replace fA := Hd (fA.out.go hb)
       try replace fQ := Hd (fQ.out.go hb)
       try replace fG := Hd2 (fG.out.1.go hb) (fG.out.2.go hb)
       have fQ := Hd qq; clear qq z; refine hK _ _ ⟨?_, ?_⟩; clear hK K
       · exact Keeps.of_below hb _
       refine lit ?_
       clear hb; refine E_rd 2 ?_)
    | (refine Arm.mk 3 fun K hK => ?_
       obtain ⟨x, hx, hb⟩ : ∃ V : World, x.alloc (.cells #[.int .i64 2, .int .i64 0, .int .i64 0, .int .i64 0, .int .i64 0, .bool false, .slice none 0 0, .bool false, .slice none 0 0, .int .i64 5, .int .i64 0, .int .i64 0, .int .i64 0, .int .i64 0, .bool p0, .slice A0 n0 c0, .bool q0, .slice B0 m0 d0] 55) = V ∧ Below x.heap.size x V := ⟨_, rfl, bel⟩
       have fPx := Hd (lit2x fB.out rd_iF (rd_iMul fQ.out) hx); replace fB := Hd (Bel.le fB.out hb.size); replace fr := Hd (fr.out.go hb)
       try replace fP := Hd (fP.out.go hb)
       try replace fA := Hd (fA.out.go hb)
       try replace fQ := Hd (fQ.out.go hb)
       try replace fG := Hd2 (fG.out.1.go hb) (fG.out.2.go hb)
       have fP := fPx; clear fPx; gi_wp2; refine ⟨Keeps.of_below hb _, ?_⟩; refine lit ?_
       clear hb hx)
    | (refine Arm.mk 4 fun K hK => ?_
       gi_wp2; refine Cm (lfrom_any fB.out (by unfold i64; omega) (by unfold i64; omega)) ?_; rintro e x ⟨u, rfl, ⟨pf1, qf1, Af1, nf1, cf1, Bf1, mf1, df1, pf2, qf2, Af2, nf2, cf2, Bf2, mf2, df2, rfl, qlo, qhi⟩, hb⟩; replace fB := Hd (Bel.le fB.out hb.size); replace fr := Hd (fr.out.go hb)
       try replace fP := Hd (fP.out.go hb)
       try replace fA := Hd (fA.out.go hb)
       try replace fQ := Hd (fQ.out.go hb)
       try replace fG := Hd2 (fG.out.1.go hb) (fG.out.2.go hb)
       have fG := Hd2 qlo qhi; clear qlo qhi; refine hK _ _ ⟨?_, ?_⟩; clear hK K
       · exact Keeps.of_below hb _
       refine lit ?_
       clear hb)
    | (refine Arm.mk 5 fun K hK => ?_
       obtain ⟨x, hx, hb⟩ : ∃ V : World, x.alloc (.cells #[.bool pf1, .slice Af1 nf1 cf1, .bool qf1, .slice Bf1 mf1 df1, .bool pf2, .slice Af2 nf2 cf2, .bool qf2, .slice Bf2 mf2 df2] 33) = V ∧ Below x.heap.size x V := ⟨_, rfl, bel⟩
       have fAx := Hd (lit1x fB.out (rd_G (x := (I1 1, I1 3)) fG.out.1 fG.out.2) hx); replace fB := Hd (Bel.le fB.out hb.size); replace fr := Hd (fr.out.go hb)
       try replace fP := Hd (fP.out.go hb)
       try replace fA := Hd (fA.out.go hb)
       try replace fQ := Hd (fQ.out.go hb)
       try replace fG := Hd2 (fG.out.1.go hb) (fG.out.2.go hb)
       have fA := fAx; clear fAx; gi_wp2; refine ⟨Keeps.of_below hb _, ?_⟩; refine lit ?_
       clear hb hx)
    | (refine Arm.mk 6 fun K hK => ?_
       gi_wp2; refine Cm (gout_any fB.out fP.out fA.out fewp.2.2.1 (fewg1 _ _ (by decide) (by decide))) ?_; rintro e x hR; obtain ⟨po1, Ao1, no1, co1, qo1, Bo1, mo1, do1, po2, Ao2, no2, co2, qo2, Bo2, mo2, do2, rfl, hg, hb⟩ := hR.cells; rw [out4]; rw [out4v] at hg; replace fB := Hd (Bel.le fB.out hb.size); replace fr := Hd (fr.out.go hb)
       try replace fP := Hd (fP.out.go hb)
       try replace fA := Hd (fA.out.go hb)
       try replace fQ := Hd (fQ.out.go hb)
       try replace fG := Hd2 (fG.out.1.go hb) (fG.out.2.go hb)
       have fO := Hd hg; clear hg hR; refine hK _ _ ⟨?_, ?_⟩; clear hK K
       · exact Keeps.of_below hb _
       refine lit ?_
       clear hb; refine E_rd 7 ?_; refine E_rd 8 ?_; refine E_rd 9 ?_)
    | (refine Arm.mk 10 fun K hK => ?_
       obtain ⟨y, hy⟩ : ∃ y, x.heap.size = y := ⟨_, rfl⟩
       obtain ⟨x, hx, hb, fy⟩ := nam2 (w := x) (fr.out.a8 y 33 hy.symm); have hyl := fy.lt1; have hle := Nat.le_of_eq hy; replace fr := Hd fy; clear fy; replace fB := Hd ((Bel.le fB.out hb.size).cons hyl)
       try replace fP := Hd ((fP.out.more hle).go hb)
       try replace fA := Hd ((fA.out.more hle).go hb)
       try replace fQ := Hd ((fQ.out.more hle).go hb)
       try replace fG := Hd2 ((fG.out.1.more hle).go hb) ((fG.out.2.more hle).go hb)
       try replace fO := Hd ((fO.out.more hle).go hb)
       clear hyl hle; gi_wp2; refine ⟨Keeps.of_below hb _, ?_⟩; refine lit ?_
       try rw [hy]
       clear hb hy hx)
    | (refine Arm.mk 11 fun K hK => ?_
       obtain ⟨x, hst, F, kp⟩ := fr.out.st8 po1 qo1 po2 qo2 Ao1 Bo1 Ao2 Bo2 no1 co1 mo1 do1 no2 co2 mo2 do2; have kU := Keeps.of_one (s := sb1) kp (Hsb1.out ▸ fr.out.ge1); have HV := Hd2 F ((GV.keep fO.out kp).less (M' := []) (by simp)); clear F kp; gi_wp2; refine ⟨kU, ?_⟩; refine lit ?_; clear kU hst; refine E_nil 1 (by kernel_rfl) rfl ?_
       refine tls fun K hK K' hK' => ?_; gi_wp2
       refine tail_nil _ ?_; simp only [npost]
       exact ⟨trivial, merge_leaf (R := fun f w' => f 11 = .int .i64 0 ∧ Below V10.heap.size V10 w' ∧ ∃ y, f 10 = .pointer (some ⟨y, 0, none⟩) ∧ Var8 w' y (encG (I1 (-6), I1 (-2)))) (by kernel_rfl) ⟨rfl, HV.out.1.bl, y, rfl, HV.out.1.var8 HV.out.2⟩⟩))))
 rintro f w21 ⟨he, hb, y11, hy, hv⟩
 have Vr11 := Hd hv
 clear hv
 have HS := Hd (HS.out.go hb)
 clear hb
 simp only [putAll, Act.put, List.setIfInBounds_toArray, List.set_cons_succ, List.set_cons_zero]
 rw [he]; rw [hy]
 clear he hy
 gi_wp2
 refine Cl 27 (lfrom_any (M := []) (x := 0) (y := 5) (Bel.nil _) (by unfold i64; omega) (by unfold i64; omega)) ?_
 rintro e w22 ⟨u12, rfl, ⟨p112, q112, A112, n112, c112, B112, m112, d112, p212, q212, A212, n212, c212, B212, m212, d212, rfl, qlo12, qhi12⟩, hb12⟩
 have Ga12 := Hd qlo12
 have Gb12 := Hd qhi12
 clear qlo12 qhi12
 have HS := Hd (HS.out.go hb12)
 have Vr11 := Hd (Vr11.out.go hb12)
 clear hb12
 gi_wp2
 refine Cl 27 (lfrom_any (M := []) (x := 3) (y := 4) (Bel.nil _) (by unfold i64; omega) (by unfold i64; omega)) ?_
 rintro e w23 ⟨u13, rfl, ⟨p113, q113, A113, n113, c113, B113, m113, d113, p213, q213, A213, n213, c213, B213, m213, d213, rfl, qlo13, qhi13⟩, hb13⟩
 have Ga13 := Hd qlo13
 have Gb13 := Hd qhi13
 clear qlo13 qhi13
 have HS := Hd (HS.out.go hb13)
 have Vr11 := Hd (Vr11.out.go hb13)
 have Ga12 := Hd (Ga12.out.go hb13)
 have Gb12 := Hd (Gb12.out.go hb13)
 clear hb13
 obtain ⟨w24, hw24⟩ : ∃ V : World, w23.alloc (.cells #[.bool p112, .slice A112 n112 c112, .bool q112, .slice B112 m112 d112, .bool p212, .slice A212 n212 c212, .bool q212, .slice B212 m212 d212, .bool p113, .slice A113 n113 c113, .bool q113, .slice B113 m113 d113, .bool p213, .slice A213 n213 c213, .bool q213, .slice B213 m213 d213] 33) = V := ⟨_, rfl⟩
 have hb14 : Below w23.heap.size w23 w24 := by rw [← hw24]; exact bel
 have A9 := Hd (show Sl RngR w24 [] (some ⟨w23.heap.size, 0, none⟩) 2 2 [encG (I1 0, I1 5), encG (I1 3, I1 4)] from by rw [← hw24]; exact lit2 (Bel.nil _) _ (rd_G (x := (I1 0, I1 5)) Ga12.out Gb12.out) (rd_G (x := (I1 3, I1 4)) Ga13.out Gb13.out))
 have HS := Hd (HS.out.go hb14)
 have Vr11 := Hd (Vr11.out.go hb14)
 have Ga12 := Hd (Ga12.out.go hb14)
 have Gb12 := Hd (Gb12.out.go hb14)
 have Ga13 := Hd (Ga13.out.go hb14)
 have Gb13 := Hd (Gb13.out.go hb14)
 clear hb14
 gi_wp2
 refine Cl 11 (gout_any (M := []) (Bel.nil _) HS.out.sel A9.out fewp.2.2.2.1 (fewg2 _ _ _ _ (by decide) (by decide) (by decide) (by decide))) ?_
 rintro e w25 hR
 obtain ⟨p115, A115, n115, c115, q115, B115, m115, d115, p215, A215, n215, c215, q215, B215, m215, d215, rfl, hg, hb⟩ := hR.cells
 rw [out5]
 rw [out5v] at hg
 obtain ⟨V15, hV15⟩ : ∃ V : World, w25.alloc (.cells #[.bool p115, .slice A115 n115 c115, .bool q115, .slice B115 m115 d115, .bool p215, .slice A215 n215 c215, .bool q215, .slice B215 m215 d215] 33) = V := ⟨_, rfl⟩
 have hst15 : (Instr.storeAt 33 (.pointer (some ⟨w25.heap.size, 0, none⟩)) (.agg #[.bool p115, .slice A115 n115 c115, .bool q115, .slice B115 m115 d115, .bool p215, .slice A215 n215 c215, .bool q215, .slice B215 m215 d215])).run Tryz.prog (w25.alloc (.cells #[.bool false, .slice none 0 0, .bool false, .slice none 0 0, .bool false, .slice none 0 0, .bool false, .slice none 0 0] 33)) = .ok () V15 := by rw [← hV15]; exact fill_run rng_size rfl (by simp [Value.oneCell'])
 have hb2 : Below w25.heap.size w25 V15 := by rw [← hV15]; exact bel
 have RK : RowV V15 w25.heap.size [.bool p115, .slice A115 n115 c115, .bool q115, .slice B115 m115 d115, .bool p215, .slice A215 n215 c215, .bool q215, .slice B215 m215 d215] 33 := by rw [← hV15]; exact heap_alloc_new w25 _
 have Vr15 := Hd (show Var8 V15 w25.heap.size (encG (I1 0, I1 5)) from ⟨_, _, _, _, _, _, _, _, _, _, _, _, _, _, _, _, ⟨RK.cell (k := 0) rfl, RK.cell (k := 1) rfl, RK.cell (k := 2) rfl, RK.cell (k := 3) rfl, RK.cell (k := 4) rfl, RK.cell (k := 5) rfl, RK.cell (k := 6) rfl, RK.cell (k := 7) rfl⟩, hg.go hb2⟩)
 obtain ⟨y15, hy15⟩ : ∃ y, w25.heap.size = y := ⟨_, rfl⟩
 rw [hy15] at Vr15 hst15
 have hbb := hb.trans (hb2.mono hb.size)
 have HS := Hd (HS.out.go hbb)
 have Vr11 := Hd (Vr11.out.go hbb)
 have A9 := Hd (A9.out.go hbb)
 clear hb hb2 hbb hg hR RK
 gi_wp2
 refine Cl 27 (lfrom_any (M := []) (x := 0) (y := 2) (Bel.nil _) (by unfold i64; omega) (by unfold i64; omega)) ?_
 rintro e w26 ⟨u16, rfl, ⟨p116, q116, A116, n116, c116, B116, m116, d116, p216, q216, A216, n216, c216, B216, m216, d216, rfl, qlo16, qhi16⟩, hb16⟩
 have Ga16 := Hd qlo16
 have Gb16 := Hd qhi16
 clear qlo16 qhi16
 have HS := Hd (HS.out.go hb16)
 have Vr11 := Hd (Vr11.out.go hb16)
 have Vr15 := Hd (Vr15.out.go hb16)
 clear hb16
 gi_wp2
 refine Cl 27 (lfrom_any (M := []) (x := 3) (y := 4) (Bel.nil _) (by unfold i64; omega) (by unfold i64; omega)) ?_
 rintro e w27 ⟨u17, rfl, ⟨p117, q117, A117, n117, c117, B117, m117, d117, p217, q217, A217, n217, c217, B217, m217, d217, rfl, qlo17, qhi17⟩, hb17⟩
 have Ga17 := Hd qlo17
 have Gb17 := Hd qhi17
 clear qlo17 qhi17
 have HS := Hd (HS.out.go hb17)
 have Vr11 := Hd (Vr11.out.go hb17)
 have Vr15 := Hd (Vr15.out.go hb17)
 have Ga16 := Hd (Ga16.out.go hb17)
 have Gb16 := Hd (Gb16.out.go hb17)
 clear hb17
 obtain ⟨w28, hw28⟩ : ∃ V : World, w27.alloc (.cells #[.bool p116, .slice A116 n116 c116, .bool q116, .slice B116 m116 d116, .bool p216, .slice A216 n216 c216, .bool q216, .slice B216 m216 d216, .bool p117, .slice A117 n117 c117, .bool q117, .slice B117 m117 d117, .bool p217, .slice A217 n217 c217, .bool q217, .slice B217 m217 d217] 33) = V := ⟨_, rfl⟩
 have hb18 : Below w27.heap.size w27 w28 := by rw [← hw28]; exact bel
 have A9 := Hd (show Sl RngR w28 [] (some ⟨w27.heap.size, 0, none⟩) 2 2 [encG (I1 0, I1 2), encG (I1 3, I1 4)] from by rw [← hw28]; exact lit2 (Bel.nil _) _ (rd_G (x := (I1 0, I1 2)) Ga16.out Gb16.out) (rd_G (x := (I1 3, I1 4)) Ga17.out Gb17.out))
 have HS := Hd (HS.out.go hb18)
 have Vr11 := Hd (Vr11.out.go hb18)
 have Vr15 := Hd (Vr15.out.go hb18)
 have Ga16 := Hd (Ga16.out.go hb18)
 have Gb16 := Hd (Gb16.out.go hb18)
 have Ga17 := Hd (Ga17.out.go hb18)
 have Gb17 := Hd (Gb17.out.go hb18)
 clear hb18
 gi_wp2
 refine Cl 11 (gout_any (M := []) (Bel.nil _) HS.out.sel A9.out fewp.2.2.2.1 (fewg2 _ _ _ _ (by decide) (by decide) (by decide) (by decide))) ?_
 rintro e w29 hR
 obtain ⟨p119, A119, n119, c119, q119, B119, m119, d119, p219, A219, n219, c219, q219, B219, m219, d219, rfl, hg, hb⟩ := hR.cells
 rw [out6]
 rw [out6v] at hg
 obtain ⟨V19, hV19⟩ : ∃ V : World, w29.alloc (.cells #[.bool p119, .slice A119 n119 c119, .bool q119, .slice B119 m119 d119, .bool p219, .slice A219 n219 c219, .bool q219, .slice B219 m219 d219] 33) = V := ⟨_, rfl⟩
 have hst19 : (Instr.storeAt 33 (.pointer (some ⟨w29.heap.size, 0, none⟩)) (.agg #[.bool p119, .slice A119 n119 c119, .bool q119, .slice B119 m119 d119, .bool p219, .slice A219 n219 c219, .bool q219, .slice B219 m219 d219])).run Tryz.prog (w29.alloc (.cells #[.bool false, .slice none 0 0, .bool false, .slice none 0 0, .bool false, .slice none 0 0, .bool false, .slice none 0 0] 33)) = .ok () V19 := by rw [← hV19]; exact fill_run rng_size rfl (by simp [Value.oneCell'])
 have hb2 : Below w29.heap.size w29 V19 := by rw [← hV19]; exact bel
 have RK : RowV V19 w29.heap.size [.bool p119, .slice A119 n119 c119, .bool q119, .slice B119 m119 d119, .bool p219, .slice A219 n219 c219, .bool q219, .slice B219 m219 d219] 33 := by rw [← hV19]; exact heap_alloc_new w29 _
 have Vr19 := Hd (show Var8 V19 w29.heap.size (encG (I1 0, I1 2)) from ⟨_, _, _, _, _, _, _, _, _, _, _, _, _, _, _, _, ⟨RK.cell (k := 0) rfl, RK.cell (k := 1) rfl, RK.cell (k := 2) rfl, RK.cell (k := 3) rfl, RK.cell (k := 4) rfl, RK.cell (k := 5) rfl, RK.cell (k := 6) rfl, RK.cell (k := 7) rfl⟩, hg.go hb2⟩)
 obtain ⟨y19, hy19⟩ : ∃ y, w29.heap.size = y := ⟨_, rfl⟩
 rw [hy19] at Vr19 hst19
 have hbb := hb.trans (hb2.mono hb.size)
 have HS := Hd (HS.out.go hbb)
 have Vr11 := Hd (Vr11.out.go hbb)
 have Vr15 := Hd (Vr15.out.go hbb)
 have A9 := Hd (A9.out.go hbb)
 clear hb hb2 hbb hg hR RK
 gi_wp2
 refine region_merge [95, 96, 97, 98, 99, 100, 101, 102, 103, 16, 17] (fun f w' => f 17 = .int .i64 0 ∧ Below V19.heap.size V19 w' ∧ ∃ y, f 16 = .pointer (some ⟨y, 0, none⟩) ∧ Var8 w' y (encG (I1 (-2), I1 2))) ?_ ?_
 · obtain ⟨sb1, hsb1⟩ : ∃ s, V19.heap.size = s := ⟨_, rfl⟩
   have Hsb1 := Hd hsb1; clear hsb1; have v0 := stays_s Hsb1.out (HS.out.rf.cell (k := 0) rfl); have v1 := stays_s Hsb1.out (HS.out.rf.cell (k := 1) rfl); have v2 := stays_s Hsb1.out (HS.out.rf.cell (k := 2) rfl); have v3 := stays_s Hsb1.out (HS.out.rf.cell (k := 3) rfl); have v4 := stays_s Hsb1.out (HS.out.rf.cell (k := 4) rfl); have v5 := stays_s Hsb1.out (HS.out.rf.cell (k := 5) rfl); have v6 := stays_s Hsb1.out (HS.out.rf.cell (k := 6) rfl); have v7 := stays_s Hsb1.out (HS.out.rf.cell (k := 7) rfl); have v8 := stays_s Hsb1.out (HS.out.rf.cell (k := 8) rfl); have fB := Hd (Bel.nil (V19).drew); have fr := Hd (Fr.nil V19).drew; refine region_E_np sb1 11 (by kernel_rfl) (by kernel_rfl) ?_; refine E_rd 0 ?_; refine E_rd 1 ?_; generalize (V19).drew = x at fB fr ⊢
   iterate 6 (all_goals (refine E_by [2, 3, 4, 5, 9, 10] (A_c ?_ (A_c ?_ (A_c ?_ (A_c ?_ (A_c ?_ (A_c ?_ A_n)))))) <;> (first
    | exact Arm.no
    | (refine Arm.mk 2 fun K hK => ?_
       obtain ⟨x, hx, hb⟩ : ∃ V : World, x.alloc (.cells #[.int .i64 2, .int .i64 0, .int .i64 0, .int .i64 0, .int .i64 0, .bool false, .slice none 0 0, .bool false, .slice none 0 0, .int .i64 4, .int .i64 0, .int .i64 0, .int .i64 0, .int .i64 0, .bool false, .slice none 0 0, .bool false, .slice none 0 0] 55) = V ∧ Below x.heap.size x V := ⟨_, rfl, bel⟩
       have fPx := Hd (lit2x fB.out rd_iF rd_iSub hx); replace fB := Hd (Bel.le fB.out hb.size); replace fr := Hd (fr.out.go hb)
       try replace fP := Hd (fP.out.go hb)
       try replace fA := Hd (fA.out.go hb)
       try replace fQ := Hd (fQ.out.go hb)
       try replace fG := Hd2 (fG.out.1.go hb) (fG.out.2.go hb)
       have fP := fPx; clear fPx; gi_wp2; refine ⟨Keeps.of_below hb _, ?_⟩; refine lit ?_
       clear hb hx)
    | (refine Arm.mk 3 fun K hK => ?_
       gi_wp2; refine Cm (lfrom_any fB.out (by unfold i64; omega) (by unfold i64; omega)) ?_; rintro e x ⟨u, rfl, ⟨pf1, qf1, Af1, nf1, cf1, Bf1, mf1, df1, pf2, qf2, Af2, nf2, cf2, Bf2, mf2, df2, rfl, qlo, qhi⟩, hb⟩; replace fB := Hd (Bel.le fB.out hb.size); replace fr := Hd (fr.out.go hb)
       try replace fP := Hd (fP.out.go hb)
       try replace fA := Hd (fA.out.go hb)
       try replace fQ := Hd (fQ.out.go hb)
       try replace fG := Hd2 (fG.out.1.go hb) (fG.out.2.go hb)
       have fG := Hd2 qlo qhi; clear qlo qhi; refine hK _ _ ⟨?_, ?_⟩; clear hK K
       · exact Keeps.of_below hb _
       refine lit ?_
       clear hb)
    | (refine Arm.mk 4 fun K hK => ?_
       obtain ⟨x, hx, hb⟩ : ∃ V : World, x.alloc (.cells #[.bool pf1, .slice Af1 nf1 cf1, .bool qf1, .slice Bf1 mf1 df1, .bool pf2, .slice Af2 nf2 cf2, .bool qf2, .slice Bf2 mf2 df2] 33) = V ∧ Below x.heap.size x V := ⟨_, rfl, bel⟩
       have fAx := Hd (lit1x fB.out (rd_G (x := (I1 1, I1 3)) fG.out.1 fG.out.2) hx); replace fB := Hd (Bel.le fB.out hb.size); replace fr := Hd (fr.out.go hb)
       try replace fP := Hd (fP.out.go hb)
       try replace fA := Hd (fA.out.go hb)
       try replace fQ := Hd (fQ.out.go hb)
       try replace fG := Hd2 (fG.out.1.go hb) (fG.out.2.go hb)
       have fA := fAx; clear fAx; gi_wp2; refine ⟨Keeps.of_below hb _, ?_⟩; refine lit ?_
       clear hb hx)
    | (refine Arm.mk 5 fun K hK => ?_
       gi_wp2; refine Cm (gout_any fB.out fP.out fA.out fewp.2.2.2.2.1 (fewg1 _ _ (by decide) (by decide))) ?_; rintro e x hR; obtain ⟨po1, Ao1, no1, co1, qo1, Bo1, mo1, do1, po2, Ao2, no2, co2, qo2, Bo2, mo2, do2, rfl, hg, hb⟩ := hR.cells; rw [out7]; rw [out7v] at hg; replace fB := Hd (Bel.le fB.out hb.size); replace fr := Hd (fr.out.go hb)
       try replace fP := Hd (fP.out.go hb)
       try replace fA := Hd (fA.out.go hb)
       try replace fQ := Hd (fQ.out.go hb)
       try replace fG := Hd2 (fG.out.1.go hb) (fG.out.2.go hb)
       have fO := Hd hg; clear hg hR; refine hK _ _ ⟨?_, ?_⟩; clear hK K
       · exact Keeps.of_below hb _
       refine lit ?_
       clear hb; refine E_rd 6 ?_; refine E_rd 7 ?_; refine E_rd 8 ?_)
    | (refine Arm.mk 9 fun K hK => ?_
       obtain ⟨y, hy⟩ : ∃ y, x.heap.size = y := ⟨_, rfl⟩
       obtain ⟨x, hx, hb, fy⟩ := nam2 (w := x) (fr.out.a8 y 33 hy.symm); have hyl := fy.lt1; have hle := Nat.le_of_eq hy; replace fr := Hd fy; clear fy; replace fB := Hd ((Bel.le fB.out hb.size).cons hyl)
       try replace fP := Hd ((fP.out.more hle).go hb)
       try replace fA := Hd ((fA.out.more hle).go hb)
       try replace fQ := Hd ((fQ.out.more hle).go hb)
       try replace fG := Hd2 ((fG.out.1.more hle).go hb) ((fG.out.2.more hle).go hb)
       try replace fO := Hd ((fO.out.more hle).go hb)
       clear hyl hle; gi_wp2; refine ⟨Keeps.of_below hb _, ?_⟩; refine lit ?_
       try rw [hy]
       clear hb hy hx)
    | (refine Arm.mk 10 fun K hK => ?_
       obtain ⟨x, hst, F, kp⟩ := fr.out.st8 po1 qo1 po2 qo2 Ao1 Bo1 Ao2 Bo2 no1 co1 mo1 do1 no2 co2 mo2 do2; have kU := Keeps.of_one (s := sb1) kp (Hsb1.out ▸ fr.out.ge1); have HV := Hd2 F ((GV.keep fO.out kp).less (M' := []) (by simp)); clear F kp; gi_wp2; refine ⟨kU, ?_⟩; refine lit ?_; clear kU hst; refine E_nil 1 (by kernel_rfl) rfl ?_
       refine tls fun K hK K' hK' => ?_; gi_wp2
       refine tail_nil _ ?_; simp only [npost]
       exact ⟨trivial, merge_leaf (R := fun f w' => f 17 = .int .i64 0 ∧ Below V19.heap.size V19 w' ∧ ∃ y, f 16 = .pointer (some ⟨y, 0, none⟩) ∧ Var8 w' y (encG (I1 (-2), I1 2))) (by kernel_rfl) ⟨rfl, HV.out.1.bl, y, rfl, HV.out.1.var8 HV.out.2⟩⟩))))
 rintro f w30 ⟨he, hb, y20, hy, hv⟩
 have Vr20 := Hd hv
 clear hv
 have HS := Hd (HS.out.go hb)
 have Vr11 := Hd (Vr11.out.go hb)
 have Vr15 := Hd (Vr15.out.go hb)
 have Vr19 := Hd (Vr19.out.go hb)
 clear hb
 simp only [putAll, Act.put, List.setIfInBounds_toArray, List.set_cons_succ, List.set_cons_zero]
 rw [he]; rw [hy]
 clear he hy
 have a0 := HS.out.rf.cell (k := 0) rfl
 have b0 := HS.out.rs.cell (k := 0) rfl
 have a1 := HS.out.rf.cell (k := 1) rfl
 have b1 := HS.out.rs.cell (k := 1) rfl
 have a2 := HS.out.rf.cell (k := 2) rfl
 have b2 := HS.out.rs.cell (k := 2) rfl
 have a3 := HS.out.rf.cell (k := 3) rfl
 have b3 := HS.out.rs.cell (k := 3) rfl
 have a4 := HS.out.rf.cell (k := 4) rfl
 have b4 := HS.out.rs.cell (k := 4) rfl
 have a5 := HS.out.rf.cell (k := 5) rfl
 have b5 := HS.out.rs.cell (k := 5) rfl
 have a6 := HS.out.rf.cell (k := 6) rfl
 have b6 := HS.out.rs.cell (k := 6) rfl
 have a7 := HS.out.rf.cell (k := 7) rfl
 have b7 := HS.out.rs.cell (k := 7) rfl
 have a8 := HS.out.rf.cell (k := 8) rfl
 have b8 := HS.out.rs.cell (k := 8) rfl
 obtain ⟨w31, hw31⟩ : ∃ V : World, w30.alloc (.cells #[.int .i64 2, .int .i64 0, .int .i64 0, .int .i64 0, .int .i64 0, .bool false, .slice none 0 0, .bool false, .slice none 0 0, .int .i64 2, .int .i64 1, .int .i64 0, .int .i64 0, .int .i64 0, .bool false, .slice none 0 0, .bool false, .slice none 0 0, .int .i64 3, .int .i64 0, .int .i64 1, .int .i64 0, .int .i64 0, .bool false, .slice none 0 0, .bool false, .slice none 0 0] 55) = V := ⟨_, rfl⟩
 have hb21 : Below w30.heap.size w30 w31 := by rw [← hw31]; exact bel
 have Ps := Hd (show Sl InsR w31 [] (some ⟨w30.heap.size, 0, none⟩) 3 3 sumP from by rw [← hw31]; exact lit3 (Bel.nil _) _ rd_iF rd_iS rd_iAdd)
 have HS := Hd (HS.out.go hb21)
 have Vr11 := Hd (Vr11.out.go hb21)
 have Vr15 := Hd (Vr15.out.go hb21)
 have Vr19 := Hd (Vr19.out.go hb21)
 have Vr20 := Hd (Vr20.out.go hb21)
 clear hb21
 gi_wp2
 refine Cl 24 (ln_any (M := []) (x := 0) (Bel.nil _) (by unfold i64; omega)) ?_
 rintro e w32 ⟨u22, rfl, z22, hb22⟩
 obtain ⟨p022, q022, A022, n022, c022, B022, m022, d022, rfl, qq22⟩ := QC.of z22
 have N22 := Hd qq22
 clear z22 qq22
 have HS := Hd (HS.out.go hb22)
 have Vr11 := Hd (Vr11.out.go hb22)
 have Vr15 := Hd (Vr15.out.go hb22)
 have Vr19 := Hd (Vr19.out.go hb22)
 have Vr20 := Hd (Vr20.out.go hb22)
 have Ps := Hd (Ps.out.go hb22)
 clear hb22
 gi_wp2
 refine Cl 24 (ln_any (M := []) (x := 4) (Bel.nil _) (by unfold i64; omega)) ?_
 rintro e w33 ⟨u23, rfl, z23, hb23⟩
 obtain ⟨p023, q023, A023, n023, c023, B023, m023, d023, rfl, qq23⟩ := QC.of z23
 have N23 := Hd qq23
 clear z23 qq23
 have HS := Hd (HS.out.go hb23)
 have Vr11 := Hd (Vr11.out.go hb23)
 have Vr15 := Hd (Vr15.out.go hb23)
 have Vr19 := Hd (Vr19.out.go hb23)
 have Vr20 := Hd (Vr20.out.go hb23)
 have Ps := Hd (Ps.out.go hb23)
 have N22 := Hd (N22.out.go hb23)
 clear hb23
 obtain ⟨w34, hw34⟩ : ∃ V : World, w33.alloc (.cells #[.bool p022, .slice A022 n022 c022, .bool q022, .slice B022 m022 d022, .bool p023, .slice A023 n023 c023, .bool q023, .slice B023 m023 d023] 31) = V := ⟨_, rfl⟩
 have hb24 : Below w33.heap.size w33 w34 := by rw [← hw34]; exact bel
 have In := Hd (show Sl RatR w34 [] (some ⟨w33.heap.size, 0, none⟩) 2 2 in04 from by rw [← hw34]; exact lit2 (Bel.nil _) _ N22.out.rd N23.out.rd)
 have HS := Hd (HS.out.go hb24)
 have Vr11 := Hd (Vr11.out.go hb24)
 have Vr15 := Hd (Vr15.out.go hb24)
 have Vr19 := Hd (Vr19.out.go hb24)
 have Vr20 := Hd (Vr20.out.go hb24)
 have Ps := Hd (Ps.out.go hb24)
 have N22 := Hd (N22.out.go hb24)
 have N23 := Hd (N23.out.go hb24)
 clear hb24
 gi_wp2
 refine Cl 24 (ln_any (M := []) (x := 1) (Bel.nil _) (by unfold i64; omega)) ?_
 rintro e w35 ⟨u25, rfl, z25, hb25⟩
 obtain ⟨p025, q025, A025, n025, c025, B025, m025, d025, rfl, qq25⟩ := QC.of z25
 have N25 := Hd qq25
 clear z25 qq25
 have HS := Hd (HS.out.go hb25)
 have Vr11 := Hd (Vr11.out.go hb25)
 have Vr15 := Hd (Vr15.out.go hb25)
 have Vr19 := Hd (Vr19.out.go hb25)
 have Vr20 := Hd (Vr20.out.go hb25)
 have Ps := Hd (Ps.out.go hb25)
 have In := Hd (In.out.go hb25)
 clear hb25
 gi_wp2
 refine Cl 24 (ln_any (M := []) (x := 3) (Bel.nil _) (by unfold i64; omega)) ?_
 rintro e w36 ⟨u26, rfl, z26, hb26⟩
 obtain ⟨p026, q026, A026, n026, c026, B026, m026, d026, rfl, qq26⟩ := QC.of z26
 have N26 := Hd qq26
 clear z26 qq26
 have HS := Hd (HS.out.go hb26)
 have Vr11 := Hd (Vr11.out.go hb26)
 have Vr15 := Hd (Vr15.out.go hb26)
 have Vr19 := Hd (Vr19.out.go hb26)
 have Vr20 := Hd (Vr20.out.go hb26)
 have Ps := Hd (Ps.out.go hb26)
 have In := Hd (In.out.go hb26)
 have N25 := Hd (N25.out.go hb26)
 clear hb26
 gi_wp2
 refine Cl 24 (ln_any (M := []) (x := 8) (Bel.nil _) (by unfold i64; omega)) ?_
 rintro e w37 ⟨u27, rfl, z27, hb27⟩
 obtain ⟨p027, q027, A027, n027, c027, B027, m027, d027, rfl, qq27⟩ := QC.of z27
 have N27 := Hd qq27
 clear z27 qq27
 have HS := Hd (HS.out.go hb27)
 have Vr11 := Hd (Vr11.out.go hb27)
 have Vr15 := Hd (Vr15.out.go hb27)
 have Vr19 := Hd (Vr19.out.go hb27)
 have Vr20 := Hd (Vr20.out.go hb27)
 have Ps := Hd (Ps.out.go hb27)
 have In := Hd (In.out.go hb27)
 have N25 := Hd (N25.out.go hb27)
 have N26 := Hd (N26.out.go hb27)
 clear hb27
 obtain ⟨w38, hw38⟩ : ∃ V : World, w37.alloc (.cells #[.bool p025, .slice A025 n025 c025, .bool q025, .slice B025 m025 d025, .bool p026, .slice A026 n026 c026, .bool q026, .slice B026 m026 d026, .bool p027, .slice A027 n027 c027, .bool q027, .slice B027 m027 d027] 31) = V := ⟨_, rfl⟩
 have hb28 : Below w37.heap.size w37 w38 := by rw [← hw38]; exact bel
 have Vs := Hd (show Sl RatR w38 [] (some ⟨w37.heap.size, 0, none⟩) 3 3 v138 from by rw [← hw38]; exact lit3 (Bel.nil _) _ N25.out.rd N26.out.rd N27.out.rd)
 have HS := Hd (HS.out.go hb28)
 have Vr11 := Hd (Vr11.out.go hb28)
 have Vr15 := Hd (Vr15.out.go hb28)
 have Vr19 := Hd (Vr19.out.go hb28)
 have Vr20 := Hd (Vr20.out.go hb28)
 have Ps := Hd (Ps.out.go hb28)
 have In := Hd (In.out.go hb28)
 have N25 := Hd (N25.out.go hb28)
 have N26 := Hd (N26.out.go hb28)
 have N27 := Hd (N27.out.go hb28)
 clear hb28
 gi_wp2
 refine Cl 24 (ln_any (M := []) (x := 7) (Bel.nil _) (by unfold i64; omega)) ?_
 rintro e w39 ⟨u29, rfl, z29, hb29⟩
 obtain ⟨p029, q029, A029, n029, c029, B029, m029, d029, rfl, qq29⟩ := QC.of z29
 have N29 := Hd qq29
 clear z29 qq29
 have HS := Hd (HS.out.go hb29)
 have Vr11 := Hd (Vr11.out.go hb29)
 have Vr15 := Hd (Vr15.out.go hb29)
 have Vr19 := Hd (Vr19.out.go hb29)
 have Vr20 := Hd (Vr20.out.go hb29)
 have Ps := Hd (Ps.out.go hb29)
 have In := Hd (In.out.go hb29)
 have Vs := Hd (Vs.out.go hb29)
 clear hb29
 gi_wp2
 refine Cl 16 (gneed_any (M := []) (at_ := 0) (ins := in04) (t := encQ (I1 7)) (⟨Bel.nil _, Ps.out, In.out, Vs.out, N29.out.xc, fewp.2.2.2.2.2, (fewq [0, 4] (by simp) (by decide)), (fewq [1, 3, 8] (by simp) (by decide)), short_one _ (by decide)⟩ : NeedH _ _ _ _ _ _ _ _ _ _ _ sumP in04 _ _ _ _ _ _ _ _ _ _)) ?_
 rintro e w40 ⟨rfl, hb30⟩
 rw [need1.1, need1.2]
 have HS := Hd (HS.out.go hb30)
 have Vr11 := Hd (Vr11.out.go hb30)
 have Vr15 := Hd (Vr15.out.go hb30)
 have Vr19 := Hd (Vr19.out.go hb30)
 have Vr20 := Hd (Vr20.out.go hb30)
 have Ps := Hd (Ps.out.go hb30)
 have In := Hd (In.out.go hb30)
 have Vs := Hd (Vs.out.go hb30)
 have N29 := Hd (N29.out.go hb30)
 clear hb30
 gi_wp2
 refine Cl 24 (ln_any (M := []) (x := 13) (Bel.nil _) (by unfold i64; omega)) ?_
 rintro e w41 ⟨u31, rfl, z31, hb31⟩
 obtain ⟨p031, q031, A031, n031, c031, B031, m031, d031, rfl, qq31⟩ := QC.of z31
 have N31 := Hd qq31
 clear z31 qq31
 have HS := Hd (HS.out.go hb31)
 have Vr11 := Hd (Vr11.out.go hb31)
 have Vr15 := Hd (Vr15.out.go hb31)
 have Vr19 := Hd (Vr19.out.go hb31)
 have Vr20 := Hd (Vr20.out.go hb31)
 have Ps := Hd (Ps.out.go hb31)
 have In := Hd (In.out.go hb31)
 have Vs := Hd (Vs.out.go hb31)
 clear hb31
 gi_wp2
 refine Cl 16 (gneed_any (M := []) (at_ := 0) (ins := in04) (t := encQ (I1 13)) (⟨Bel.nil _, Ps.out, In.out, Vs.out, N31.out.xc, fewp.2.2.2.2.2, (fewq [0, 4] (by simp) (by decide)), (fewq [1, 3, 8] (by simp) (by decide)), short_one _ (by decide)⟩ : NeedH _ _ _ _ _ _ _ _ _ _ _ sumP in04 _ _ _ _ _ _ _ _ _ _)) ?_
 rintro e w42 ⟨rfl, hb32⟩
 rw [need2.1, need2.2]
 have HS := Hd (HS.out.go hb32)
 have Vr11 := Hd (Vr11.out.go hb32)
 have Vr15 := Hd (Vr15.out.go hb32)
 have Vr19 := Hd (Vr19.out.go hb32)
 have Vr20 := Hd (Vr20.out.go hb32)
 have Ps := Hd (Ps.out.go hb32)
 have In := Hd (In.out.go hb32)
 have Vs := Hd (Vs.out.go hb32)
 have N31 := Hd (N31.out.go hb32)
 clear hb32
 gi_wp2
 refine Cl 24 (ln_any (M := []) (x := 13) (Bel.nil _) (by unfold i64; omega)) ?_
 rintro e w43 ⟨u33, rfl, z33, hb33⟩
 obtain ⟨p033, q033, A033, n033, c033, B033, m033, d033, rfl, qq33⟩ := QC.of z33
 have N33 := Hd qq33
 clear z33 qq33
 have HS := Hd (HS.out.go hb33)
 have Vr11 := Hd (Vr11.out.go hb33)
 have Vr15 := Hd (Vr15.out.go hb33)
 have Vr19 := Hd (Vr19.out.go hb33)
 have Vr20 := Hd (Vr20.out.go hb33)
 have Ps := Hd (Ps.out.go hb33)
 have In := Hd (In.out.go hb33)
 have Vs := Hd (Vs.out.go hb33)
 clear hb33
 gi_wp2
 refine Cl 16 (gneed_any (M := []) (at_ := 2) (ins := in04) (t := encQ (I1 13)) (⟨Bel.nil _, Ps.out, In.out, Vs.out, N33.out.xc, fewp.2.2.2.2.2, (fewq [0, 4] (by simp) (by decide)), (fewq [1, 3, 8] (by simp) (by decide)), short_one _ (by decide)⟩ : NeedH _ _ _ _ _ _ _ _ _ _ _ sumP in04 _ _ _ _ _ _ _ _ _ _)) ?_
 rintro e w44 ⟨rfl, hb34⟩
 rw [need3]
 have HS := Hd (HS.out.go hb34)
 have Vr11 := Hd (Vr11.out.go hb34)
 have Vr15 := Hd (Vr15.out.go hb34)
 have Vr19 := Hd (Vr19.out.go hb34)
 have Vr20 := Hd (Vr20.out.go hb34)
 have Ps := Hd (Ps.out.go hb34)
 have In := Hd (In.out.go hb34)
 have Vs := Hd (Vs.out.go hb34)
 have N33 := Hd (N33.out.go hb34)
 clear hb34
 gi_wp2
 refine Cl 24 (ln_any (M := []) (x := 1) (Bel.nil _) (by unfold i64; omega)) ?_
 rintro e w45 ⟨u35, rfl, z35, hb35⟩
 obtain ⟨p035, q035, A035, n035, c035, B035, m035, d035, rfl, qq35⟩ := QC.of z35
 have N35 := Hd qq35
 clear z35 qq35
 have HS := Hd (HS.out.go hb35)
 have Vr11 := Hd (Vr11.out.go hb35)
 have Vr15 := Hd (Vr15.out.go hb35)
 have Vr19 := Hd (Vr19.out.go hb35)
 have Vr20 := Hd (Vr20.out.go hb35)
 have Ps := Hd (Ps.out.go hb35)
 have In := Hd (In.out.go hb35)
 have Vs := Hd (Vs.out.go hb35)
 clear hb35
 gi_wp2
 refine Cl 24 (ln_any (M := []) (x := 1) (Bel.nil _) (by unfold i64; omega)) ?_
 rintro e w46 ⟨u36, rfl, z36, hb36⟩
 obtain ⟨p036, q036, A036, n036, c036, B036, m036, d036, rfl, qq36⟩ := QC.of z36
 have N36 := Hd qq36
 clear z36 qq36
 have HS := Hd (HS.out.go hb36)
 have Vr11 := Hd (Vr11.out.go hb36)
 have Vr15 := Hd (Vr15.out.go hb36)
 have Vr19 := Hd (Vr19.out.go hb36)
 have Vr20 := Hd (Vr20.out.go hb36)
 have Ps := Hd (Ps.out.go hb36)
 have In := Hd (In.out.go hb36)
 have Vs := Hd (Vs.out.go hb36)
 have N35 := Hd (N35.out.go hb36)
 clear hb36
 obtain ⟨w47, hw47⟩ : ∃ V : World, w46.alloc (.cells #[.bool p035, .slice A035 n035 c035, .bool q035, .slice B035 m035 d035, .bool p036, .slice A036 n036 c036, .bool q036, .slice B036 m036 d036] 31) = V := ⟨_, rfl⟩
 have hb37 : Below w46.heap.size w46 w47 := by rw [← hw47]; exact bel
 have V2 := Hd (show Sl RatR w47 [] (some ⟨w46.heap.size, 0, none⟩) 2 2 [encQ (I1 1), encQ (I1 1)] from by rw [← hw47]; exact lit2 (Bel.nil _) _ N35.out.rd N36.out.rd)
 have HS := Hd (HS.out.go hb37)
 have Vr11 := Hd (Vr11.out.go hb37)
 have Vr15 := Hd (Vr15.out.go hb37)
 have Vr19 := Hd (Vr19.out.go hb37)
 have Vr20 := Hd (Vr20.out.go hb37)
 have Ps := Hd (Ps.out.go hb37)
 have In := Hd (In.out.go hb37)
 have Vs := Hd (Vs.out.go hb37)
 have N35 := Hd (N35.out.go hb37)
 have N36 := Hd (N36.out.go hb37)
 clear hb37
 gi_wp2
 refine Cl 24 (ln_any (M := []) (x := 13) (Bel.nil _) (by unfold i64; omega)) ?_
 rintro e w48 ⟨u38, rfl, z38, hb38⟩
 obtain ⟨p038, q038, A038, n038, c038, B038, m038, d038, rfl, qq38⟩ := QC.of z38
 have N38 := Hd qq38
 clear z38 qq38
 have HS := Hd (HS.out.go hb38)
 have Vr11 := Hd (Vr11.out.go hb38)
 have Vr15 := Hd (Vr15.out.go hb38)
 have Vr19 := Hd (Vr19.out.go hb38)
 have Vr20 := Hd (Vr20.out.go hb38)
 have Ps := Hd (Ps.out.go hb38)
 have In := Hd (In.out.go hb38)
 have Vs := Hd (Vs.out.go hb38)
 have V2 := Hd (V2.out.go hb38)
 clear hb38
 gi_wp2
 refine Cl 16 (gneed_any (M := []) (at_ := 0) (ins := in04) (t := encQ (I1 13)) (⟨Bel.nil _, Ps.out, In.out, V2.out, N38.out.xc, fewp.2.2.2.2.2, (fewq [0, 4] (by simp) (by decide)), (fewq [1, 1] (by simp) (by decide)), short_one _ (by decide)⟩ : NeedH _ _ _ _ _ _ _ _ _ _ _ sumP in04 _ _ _ _ _ _ _ _ _ _)) ?_
 rintro e w49 ⟨rfl, hb39⟩
 rw [need4]
 have HS := Hd (HS.out.go hb39)
 have Vr11 := Hd (Vr11.out.go hb39)
 have Vr15 := Hd (Vr15.out.go hb39)
 have Vr19 := Hd (Vr19.out.go hb39)
 have Vr20 := Hd (Vr20.out.go hb39)
 have Ps := Hd (Ps.out.go hb39)
 have In := Hd (In.out.go hb39)
 have Vs := Hd (Vs.out.go hb39)
 have V2 := Hd (V2.out.go hb39)
 have N38 := Hd (N38.out.go hb39)
 clear hb39
 obtain ⟨pp10, AA10, nn10, cc10, qq10, BB10, mm10, dd10, pp20, AA20, nn20, cc20, qq20, BB20, mm20, dd20, ⟨g00, g10, g20, g30, g40, g50, g60, g70⟩, gv0⟩ := Vr11.out.cells
 have HGV0 := Hd gv0
 clear gv0
 gi_wp2
 refine Cl 28 (lis_yes (M := []) (x := (-6)) (y := (-2)) (Bel.nil _) HGV0.out (by unfold i64; omega) (by unfold i64; omega)) ?_
 rintro e w50 ⟨rfl, hb40⟩
 have HS := Hd (HS.out.go hb40)
 have Vr11 := Hd (Vr11.out.go hb40)
 have Vr15 := Hd (Vr15.out.go hb40)
 have Vr19 := Hd (Vr19.out.go hb40)
 have Vr20 := Hd (Vr20.out.go hb40)
 have Ps := Hd (Ps.out.go hb40)
 have In := Hd (In.out.go hb40)
 have Vs := Hd (Vs.out.go hb40)
 have V2 := Hd (V2.out.go hb40)
 clear hb40
 obtain ⟨pp11, AA11, nn11, cc11, qq11, BB11, mm11, dd11, pp21, AA21, nn21, cc21, qq21, BB21, mm21, dd21, ⟨g01, g11, g21, g31, g41, g51, g61, g71⟩, gv1⟩ := Vr15.out.cells
 have HGV1 := Hd gv1
 clear gv1
 gi_wp2
 refine Cl 28 (lis_yes (M := []) (x := 0) (y := 5) (Bel.nil _) HGV1.out (by unfold i64; omega) (by unfold i64; omega)) ?_
 rintro e w51 ⟨rfl, hb41⟩
 have HS := Hd (HS.out.go hb41)
 have Vr15 := Hd (Vr15.out.go hb41)
 have Vr19 := Hd (Vr19.out.go hb41)
 have Vr20 := Hd (Vr20.out.go hb41)
 have Ps := Hd (Ps.out.go hb41)
 have In := Hd (In.out.go hb41)
 have Vs := Hd (Vs.out.go hb41)
 have V2 := Hd (V2.out.go hb41)
 clear hb41
 obtain ⟨pp12, AA12, nn12, cc12, qq12, BB12, mm12, dd12, pp22, AA22, nn22, cc22, qq22, BB22, mm22, dd22, ⟨g02, g12, g22, g32, g42, g52, g62, g72⟩, gv2⟩ := Vr19.out.cells
 have HGV2 := Hd gv2
 clear gv2
 gi_wp2
 refine Cl 28 (lis_yes (M := []) (x := 0) (y := 2) (Bel.nil _) HGV2.out (by unfold i64; omega) (by unfold i64; omega)) ?_
 rintro e w52 ⟨rfl, hb42⟩
 have HS := Hd (HS.out.go hb42)
 have Vr19 := Hd (Vr19.out.go hb42)
 have Vr20 := Hd (Vr20.out.go hb42)
 have Ps := Hd (Ps.out.go hb42)
 have In := Hd (In.out.go hb42)
 have Vs := Hd (Vs.out.go hb42)
 have V2 := Hd (V2.out.go hb42)
 clear hb42
 obtain ⟨pp13, AA13, nn13, cc13, qq13, BB13, mm13, dd13, pp23, AA23, nn23, cc23, qq23, BB23, mm23, dd23, ⟨g03, g13, g23, g33, g43, g53, g63, g73⟩, gv3⟩ := Vr20.out.cells
 have HGV3 := Hd gv3
 clear gv3
 gi_wp2
 refine Cl 28 (lis_yes (M := []) (x := (-2)) (y := 2) (Bel.nil _) HGV3.out (by unfold i64; omega) (by unfold i64; omega)) ?_
 rintro e w53 ⟨rfl, hb43⟩
 have HS := Hd (HS.out.go hb43)
 have Vr20 := Hd (Vr20.out.go hb43)
 have Ps := Hd (Ps.out.go hb43)
 have In := Hd (In.out.go hb43)
 have Vs := Hd (Vs.out.go hb43)
 have V2 := Hd (V2.out.go hb43)
 clear hb43
 gi_wp2
 go_ret
 exact ⟨rfl, HS.out.bl⟩
end Go.Proofs.YtboapndkopabiaaGreat.U
