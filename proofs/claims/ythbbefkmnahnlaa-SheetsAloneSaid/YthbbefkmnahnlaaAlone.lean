/- The walk of SheetsAlone: it returns true. No statement is proved here. -/
import Derived.Test.YthbbefkmnahnlaaOnly
import Derived.Test.YthbbefkmnahnlaaPure2
import Derived.Test.YthbbefkmnahnlaaCut
namespace Go.Proofs.Ythbbefkmnahnlaa
open Go.RowKit Go.Shelf
attribute [local go_sem] Oper.semAt_some

theorem tmod_small {a : Int} (h0 : 0 ≤ a) (n : Nat) : ∃ k : Nat, k ≤ n ∧ a.tmod ((n : Int) + 1) = (k : Int) := by
  have h1 : 0 ≤ a.tmod ((n : Int) + 1) := Int.tmod_nonneg _ h0
  have h2 : a.tmod ((n : Int) + 1) < (n : Int) + 1 := Int.tmod_lt_of_pos _ (by omega)
  exact ⟨(a.tmod ((n : Int) + 1)).toNat, by omega, by omega⟩

set_option maxHeartbeats 1000000 in
theorem alone_any {M M2 : List Nat} (A : Option Addr) (n cp : Nat) (c : List Crit) (no rd en ju : Int) (B : Option Addr) (m d : Nat) (bs : List (List Int)) (at_ : Int) (ha0 : 0 ≤ at_) (ha1 : at_ ≤ 255) (w : World) (hx : Sl Crit w M A n cp c) (hy : Sl (List Int) w M2 B m d bs) :
    Calls Try.prog 5 #[.slice A n cp, .agg #[.int .i64 no, .int .i64 rd, .int .i64 en, .int .i64 ju, .slice B m d], .int .u8 at_] w fun e w' => e = .returned (.bool true) ∧ Below w.heap.size w w' := by
  refine (callsIn_wide (n := 10)).1 ?_
  have h0 := Std.make A n cp c no rd en ju B m d bs none 0 0 [] w hx hy (Sl.nil_ (M := []))
  have hl := hx.len
  have hn := hx.small
  have hcp := hx.cap
  have hm := hy.len
  have hmd := hy.cap
  clear hx hy
  generalize hF : fewM c ⟨no, rd, en, ju, bs⟩ = bF
  generalize hC : checkM c ⟨no, rd, en, ju, bs⟩ = iC
  refine callsIn_of_wp Try.func5 rfl trivial ?_ rfl; simp only [Try.ntmps5, List.size_toArray, List.length_cons, List.length_nil, Nat.reduceAdd, Nat.reduceSub, Array.replicate_succ, Array.replicate_zero, List.push_toArray, List.append_toArray, List.nil_append, List.cons_append]
  obtain ⟨W1, hW1⟩ : ∃ W1 : World, w.alloc (.cells #[.int .i64 no, .int .i64 rd, .int .i64 en, .int .i64 ju, .slice B m d] 29) = W1 := ⟨_, rfl⟩
  rw [hW1] at h0
  have H0 := Lib.hid h0
  have HF := Lib.hid hF
  have HC := Lib.hid hC
  clear h0 hF hC
  by_cases h8 : 8 < n
  · gi_wp2_with (first
      | (refine ⟨trivial, ?_⟩; gi_at_call 7; refine (callsIn_wide.2 (sane_any _)).mono ?_; rintro e w1 ⟨rfl, hb⟩; have H1 := Lib.hid (H0.out.go hb); clear hb; obtain ⟨z0, z1, z2, z3, z4, -, -, -, -, -⟩ := H1.out)
      | (refine ⟨trivial, ?_⟩))
    go_ret
    exact ⟨rfl, H1.out.lo⟩
  cases bF
  · gi_wp2_with (first
      | (have g := H1.out; clear g; refine ⟨trivial, ?_⟩; gi_at_call 14; refine (callsIn_wide.2 (few_any A n cp c no rd en ju B m d bs _ H1.out.x H1.out.y)).mono ?_; rintro e w2 ⟨rfl, hb⟩; rw [HF.out]; have H2 := Lib.hid (H1.out.go hb); clear hb z0 z1 z2 z3 z4; obtain ⟨z0, z1, z2, z3, z4, -, -, -, -, -⟩ := H2.out)
      | (refine ⟨trivial, ?_⟩; gi_at_call 7; refine (callsIn_wide.2 (sane_any _)).mono ?_; rintro e w1 ⟨rfl, hb⟩; have H1 := Lib.hid (H0.out.go hb); clear hb; obtain ⟨z0, z1, z2, z3, z4, -, -, -, -, -⟩ := H1.out)
      | (refine ⟨trivial, ?_⟩))
    all_goals first
      | (go_ret; exact ⟨rfl, H2.out.lo⟩)
      | (exfalso; simp only [decide_eq_true_eq, decide_eq_false_iff_not] at *; omega)
  · have hC2 := HC.out
    by_cases hi : iC = 0
    · subst hi
      obtain ⟨k, hk, hrem⟩ := tmod_small ha0 n
      obtain ⟨q0, q1, q2, q3, q4⟩ := alone_law hC2 k
      have hml : n = m := by
        have := (check_zero hC2).2.2.1
        simp only at this
        omega
      have HQ := Lib.hid q0
      have HQ1 := Lib.hid q1
      have HQ2 := Lib.hid q2
      have HQ3 := Lib.hid q3
      have HQ4 := Lib.hid q4
      have HLN := Lib.hid hl
      subst hml
      clear q0 q1 q2 q3 q4 hC2 hl hm
      gi_wp2_with (first
        | (have g := H3.out; clear g; refine ⟨trivial, ?_⟩; gi_at_call 10; refine (callsIn_wide.2 (read_any A n cp c no rd en ju B _ d bs _ H3.out.x H3.out.y)).mono ?_; rintro e w5 ⟨A1, n1, cp1, A2, n2, cp2, rfl, hs, hb⟩; obtain ⟨hs1, hs2⟩ := hs [] (by simp); rw [HQ.out] at hs1 hs2 ⊢; have HS1 := Lib.hid hs1; have HS2 := Lib.hid hs2; have H5 := Lib.hid (H3.out.go hb); clear hb hs hs1 hs2 z0 z1 z2 z3 z4; obtain ⟨z0, z1, z2, z3, z4, -, -, -, -, -⟩ := H5.out)
        | (have g := H2.out; clear g; refine ⟨trivial, ?_⟩; gi_at_call 15; refine (callsIn_wide.2 (rcheck_any A n cp c no rd en ju B _ d bs _ H2.out.x H2.out.y)).mono ?_; rintro e w3 ⟨rfl, hb⟩; rw [HC.out]; have H3 := Lib.hid (H2.out.go hb); clear hb z0 z1 z2 z3 z4; obtain ⟨z0, z1, z2, z3, z4, -, -, -, -, -⟩ := H3.out)
        | (have g := H1.out; clear g; refine ⟨trivial, ?_⟩; gi_at_call 14; refine (callsIn_wide.2 (few_any A n cp c no rd en ju B _ d bs _ H1.out.x H1.out.y)).mono ?_; rintro e w2 ⟨rfl, hb⟩; rw [HF.out]; have H2 := Lib.hid (H1.out.go hb); clear hb z0 z1 z2 z3 z4; obtain ⟨z0, z1, z2, z3, z4, -, -, -, -, -⟩ := H2.out)
        | (refine ⟨trivial, ?_⟩; gi_at_call 7; refine (callsIn_wide.2 (sane_any _)).mono ?_; rintro e w1 ⟨rfl, hb⟩; have H1 := Lib.hid (H0.out.go hb); clear hb; obtain ⟨z0, z1, z2, z3, z4, -, -, -, -, -⟩ := H1.out)
        | (refine ⟨trivial, ?_⟩))
      all_goals first
        | (exfalso; simp only [decide_eq_true_eq, decide_eq_false_iff_not] at *; omega)
        | skip
      have v0 := stays_drew z0
      have v1 := stays_drew z1
      have v2 := stays_drew z2
      have v3 := stays_drew z3
      have v4 := stays_drew z4
      have s1 := slice_to (k := k) Try.underlying22 (sz := 7) (fun w => by kernel_rfl) A hk hcp
      have s2 := slice_to (k := k) Try.underlying26 (sz := 1) (fun w => by kernel_rfl) B hk hmd
      refine wpIn_region_all [] (List.range 16) (by kernel_rfl) (by kernel_rfl) ?_
      simp only [show List.range 16 = [0,1,2,3,4,5,6,7,8,9,10,11,12,13,14,15] from rfl]
      repeat (refine ord_step fun K hK => ?_; (first | (refine ordStep_read rfl rfl ?_ ?_; (focus (first | exact wanted_none rfl | (refine wanted_yes rfl ?_; (focus (simp [yielded]; done))))); apply Exists.intro; refine ⟨fun w' hk Z hZ => ?_, hK _ _ ?_⟩; (focus (simp only [execOp]; (repeat conv in Act.eval _ _ => whnf); (try go_simp); exact hZ))) | (refine ordStep_skip rfl rfl ?_ (hK _ _ ?_); (focus (first | (refine wanted_no rfl ?_; (focus (simp [yielded]; done))) | (refine wanted_un rfl ?_; (focus (simp [yielded]; done)))))) | (refine ordStep_callskip rfl rfl ?_ (fun _ => trivial) (hK _ _ ?_); (focus (first | (refine wanted_no rfl ?_; (focus (simp [yielded]; done))) | (refine wanted_un rfl ?_; (focus (simp [yielded]; done))))))); clear hK K; (try simp only [Act.put, List.setIfInBounds_toArray, List.set_cons_succ, List.set_cons_zero]))
      refine ord_step fun K hK => ?_; refine ordStep_call rfl rfl ?_ (fun K' hK' => ?_); (focus (first | exact wanted_none rfl | (refine wanted_yes rfl ?_; (focus (simp [yielded]; done))))); gi_wp2
      refine ⟨trivial, (callsIn_wide.2 (read_any (M := []) (M2 := []) _ _ _ (c.take k) 0 0 0 0 _ _ _ (bs.take k) _ (H5.out.drew.x.cutTo hk) (H5.out.drew.y.cutTo hk))).mono ?_⟩
      rintro e w6 ⟨A3, n3, cp3, A4, n4, cp4, rfl, hs, hb⟩
      obtain ⟨hs3, hs4⟩ := hs [] (by simp)
      rw [HQ1.out] at hs3 hs4 ⊢
      refine hK' _ _ ⟨?_, hK _ _ ?_⟩; clear hK' K' hK K
      · exact Keeps.of_below hb []
      have H6 := Lib.hid (H5.out.drew.go hb)
      have HT1 := Lib.hid (HS1.out.keep ((Keeps.refl [] w5).drew.trans (Keeps.of_below hb [])))
      have HT2 := Lib.hid (HS2.out.keep ((Keeps.refl [] w5).drew.trans (Keeps.of_below hb [])))
      have HT3 := Lib.hid hs3
      have HT4 := Lib.hid hs4
      (try simp only [Act.put, List.setIfInBounds_toArray, List.set_cons_succ, List.set_cons_zero])
      clear hb hs hs3 hs4 HS1 HS2 z0 z1 z2 z3 z4 v0 v1 v2 v3 v4
      repeat (refine ord_step fun K hK => ?_; (first | (refine ordStep_read rfl rfl ?_ ?_; (focus (first | exact wanted_none rfl | (refine wanted_yes rfl ?_; (focus (simp [yielded]; done))))); apply Exists.intro; refine ⟨fun w' hk Z hZ => ?_, hK _ _ ?_⟩; (focus (simp only [execOp]; (repeat conv in Act.eval _ _ => whnf); (try go_simp); exact hZ))) | (refine ordStep_skip rfl rfl ?_ (hK _ _ ?_); (focus (first | (refine wanted_no rfl ?_; (focus (simp [yielded]; done))) | (refine wanted_un rfl ?_; (focus (simp [yielded]; done)))))) | (refine ordStep_callskip rfl rfl ?_ (fun _ => trivial) (hK _ _ ?_); (focus (first | (refine wanted_no rfl ?_; (focus (simp [yielded]; done))) | (refine wanted_un rfl ?_; (focus (simp [yielded]; done))))))); clear hK K; (try simp only [Act.put, List.setIfInBounds_toArray, List.set_cons_succ, List.set_cons_zero]))
      refine ord_nil ?_; (try simp only [Act.put, List.setIfInBounds_toArray, List.set_cons_succ, List.set_cons_zero])
      clear s1 s2
      obtain ⟨z0, z1, z2, z3, z4, -, -, -, -, -⟩ := H6.out
      have v0 := stays_drew z0
      have v1 := stays_drew z1
      have v2 := stays_drew z2
      have v3 := stays_drew z3
      have v4 := stays_drew z4
      have s1 := slice_from (k := k) (cp := cp) Try.underlying22 (sz := 7) (fun w => by kernel_rfl) A hk
      have s2 := slice_from (k := k) (cp := d) Try.underlying26 (sz := 1) (fun w => by kernel_rfl) B hk
      gi_wp2
      refine wpIn_region_all [] (List.range 16) (by kernel_rfl) (by kernel_rfl) ?_
      simp only [show List.range 16 = [0,1,2,3,4,5,6,7,8,9,10,11,12,13,14,15] from rfl]
      repeat (refine ord_step fun K hK => ?_; (first | (refine ordStep_read rfl rfl ?_ ?_; (focus (first | exact wanted_none rfl | (refine wanted_yes rfl ?_; (focus (simp [yielded]; done))))); apply Exists.intro; refine ⟨fun w' hk Z hZ => ?_, hK _ _ ?_⟩; (focus (simp only [execOp]; (repeat conv in Act.eval _ _ => whnf); (try go_simp); exact hZ))) | (refine ordStep_skip rfl rfl ?_ (hK _ _ ?_); (focus (first | (refine wanted_no rfl ?_; (focus (simp [yielded]; done))) | (refine wanted_un rfl ?_; (focus (simp [yielded]; done)))))) | (refine ordStep_callskip rfl rfl ?_ (fun _ => trivial) (hK _ _ ?_); (focus (first | (refine wanted_no rfl ?_; (focus (simp [yielded]; done))) | (refine wanted_un rfl ?_; (focus (simp [yielded]; done))))))); clear hK K; (try simp only [Act.put, List.setIfInBounds_toArray, List.set_cons_succ, List.set_cons_zero]))
      refine ord_step fun K hK => ?_; refine ordStep_call rfl rfl ?_ (fun K' hK' => ?_); (focus (first | exact wanted_none rfl | (refine wanted_yes rfl ?_; (focus (simp [yielded]; done))))); gi_wp2
      refine ⟨trivial, (callsIn_wide.2 (read_any (M := []) (M2 := []) _ _ _ (c.drop k) 7 3 9 1 _ _ _ (bs.drop k) _ (H6.out.drew.x.cut hk rfl) (H6.out.drew.y.cut hk rfl))).mono ?_⟩
      rintro e w7 ⟨A5, n5, cp5, A6, n6, cp6, rfl, hs, hb⟩
      obtain ⟨hs5, hs6⟩ := hs [] (by simp)
      rw [HQ2.out] at hs5 hs6 ⊢
      refine hK' _ _ ⟨?_, hK _ _ ?_⟩; clear hK' K' hK K
      · exact Keeps.of_below hb []
      have H7 := Lib.hid (H6.out.drew.go hb)
      have HU1 := Lib.hid (HT1.out.keep ((Keeps.refl [] w6).drew.trans (Keeps.of_below hb [])))
      have HU2 := Lib.hid (HT2.out.keep ((Keeps.refl [] w6).drew.trans (Keeps.of_below hb [])))
      have HU3 := Lib.hid (HT3.out.keep ((Keeps.refl [] w6).drew.trans (Keeps.of_below hb [])))
      have HU4 := Lib.hid (HT4.out.keep ((Keeps.refl [] w6).drew.trans (Keeps.of_below hb [])))
      have HU5 := Lib.hid hs5
      have HU6 := Lib.hid hs6
      (try simp only [Act.put, List.setIfInBounds_toArray, List.set_cons_succ, List.set_cons_zero])
      clear hb hs hs5 hs6 HT1 HT2 HT3 HT4 z0 z1 z2 z3 z4 v0 v1 v2 v3 v4
      repeat (refine ord_step fun K hK => ?_; (first | (refine ordStep_read rfl rfl ?_ ?_; (focus (first | exact wanted_none rfl | (refine wanted_yes rfl ?_; (focus (simp [yielded]; done))))); apply Exists.intro; refine ⟨fun w' hk Z hZ => ?_, hK _ _ ?_⟩; (focus (simp only [execOp]; (repeat conv in Act.eval _ _ => whnf); (try go_simp); exact hZ))) | (refine ordStep_skip rfl rfl ?_ (hK _ _ ?_); (focus (first | (refine wanted_no rfl ?_; (focus (simp [yielded]; done))) | (refine wanted_un rfl ?_; (focus (simp [yielded]; done)))))) | (refine ordStep_callskip rfl rfl ?_ (fun _ => trivial) (hK _ _ ?_); (focus (first | (refine wanted_no rfl ?_; (focus (simp [yielded]; done))) | (refine wanted_un rfl ?_; (focus (simp [yielded]; done))))))); clear hK K; (try simp only [Act.put, List.setIfInBounds_toArray, List.set_cons_succ, List.set_cons_zero]))
      refine ord_nil ?_; (try simp only [Act.put, List.setIfInBounds_toArray, List.set_cons_succ, List.set_cons_zero])
      clear s1 s2
      have l1 : n1 = n := by rw [← HU1.out.len, ← HLN.out]; simp only [marksM, List.length_zipWith]; have := H7.out.y.len; have := HLN.out; omega
      have l3 : n3 ≤ n := by rw [← HU3.out.len, ← HLN.out]; simp only [marksM, List.length_zipWith, List.length_take]; omega
      have l4 : n4 ≤ n := by rw [← HU4.out.len, ← HLN.out]; simp only [classesM, List.length_zipWith, List.length_take]; omega
      have l5 : n5 ≤ n := by rw [← HU5.out.len, ← HLN.out]; simp only [marksM, List.length_zipWith, List.length_drop]; omega
      have l6 : n6 ≤ n := by rw [← HU6.out.len, ← HLN.out]; simp only [classesM, List.length_zipWith, List.length_drop]; omega
      have l2 : n2 ≤ n := by rw [← HU2.out.len, ← HLN.out]; simp only [classesM, List.length_zipWith]; omega
      have L1 := Lib.hid l1
      clear l1
      obtain ⟨v1, W8, O, cO, W9, r1, r2, hs, hb⟩ := app2 HU3.out HU5.out (by omega)
      have R1 := Lib.hid r1
      have R2 := Lib.hid r2
      have HM := Lib.hid hs
      have HB := Lib.hid hb
      clear r1 r2 hs hb
      gi_wp2_with (first
        | (have g := HB2.out; clear g; refine ⟨trivial, ?_⟩; gi_at_call 12; refine (callsIn_wide.2 (same_any A2 O2 n2 cp2 (n4 + n6) cO2 _ _ _ (HX.out.keep (Keeps.of_below HB2.out [])) HM2.out (by omega))).mono ?_; rintro e w13 ⟨rfl, hb⟩; rw [HQ4.out, same_refl]; have HB13 := Lib.hid (HB2.out.trans (hb.mono HB2.out.size)); clear hb)
        | (have g := HB2.out; clear g; gi_at_builtin; refine wpListIn_plain rfl fun K hK' => ?_; refine wpIn_append _ _ _ rfl rfl rfl R3.out (hK' _ _ ?_); clear hK' K)
        | (have g := HB2.out; clear g; gi_at_builtin; refine wpListIn_step fun K hK' => ?_; rw [if_pos (by rfl)]; refine wpIn_append _ _ _ rfl rfl rfl R3.out (hK' _ _ ?_); clear hK' K)
        | (have g := HB2.out; clear g; gi_at_builtin; refine wpIn_append _ _ _ rfl rfl rfl R3.out ?_)
        | (have g := HB2.out; clear g; gi_at_builtin; refine wpListIn_plain rfl fun K hK' => ?_; refine wpIn_append _ _ _ rfl rfl rfl R4.out (hK' _ _ ?_); clear hK' K)
        | (have g := HB2.out; clear g; gi_at_builtin; refine wpListIn_step fun K hK' => ?_; rw [if_pos (by rfl)]; refine wpIn_append _ _ _ rfl rfl rfl R4.out (hK' _ _ ?_); clear hK' K)
        | (have g := HB2.out; clear g; gi_at_builtin; refine wpIn_append _ _ _ rfl rfl rfl R4.out ?_)
        | (refine ⟨trivial, ?_⟩; gi_at_call 12; refine (callsIn_wide.2 (same_any A1 O n1 cp1 (n3 + n5) cO _ _ _ (HU1.out.keep (Keeps.of_below HB.out [])) HM.out (by have := L1.out; omega))).mono ?_; rintro e w10 ⟨rfl, hb⟩; rw [HQ3.out, same_refl]; have kk := (Keeps.of_below HB.out []).trans (Keeps.of_below hb []); have HX := Lib.hid (HU2.out.keep kk); have HB10 := Lib.hid (HB.out.trans (hb.mono HB.out.size)); obtain ⟨v11, W11, O2, cO2, W12, r3, r4, hs, hb2⟩ := app2 (HU4.out.keep kk) (HU6.out.keep kk) (by omega); have R3 := Lib.hid r3; have R4 := Lib.hid r4; have HM2 := Lib.hid hs; have HB2 := Lib.hid hb2; clear r3 r4 hs hb2 hb kk)
        | (gi_at_builtin; refine wpListIn_plain rfl fun K hK' => ?_; refine wpIn_append _ _ _ rfl rfl rfl R1.out (hK' _ _ ?_); clear hK' K)
        | (gi_at_builtin; refine wpListIn_plain rfl fun K hK' => ?_; refine wpIn_append _ _ _ rfl rfl rfl R2.out (hK' _ _ ?_); clear hK' K)
        | fail)
      go_ret
      exact ⟨rfl, ((H7.out.go (HB10.out.mono (Nat.le_refl _))).go HB13.out).lo⟩
    · have hi2 : (iC != 0) = true := by simpa using hi
      gi_wp2_with (first
        | (have g := H2.out; clear g; refine ⟨trivial, ?_⟩; gi_at_call 15; refine (callsIn_wide.2 (rcheck_any A n cp c no rd en ju B m d bs _ H2.out.x H2.out.y)).mono ?_; rintro e w3 ⟨rfl, hb⟩; rw [HC.out]; have H3 := Lib.hid (H2.out.go hb); clear hb z0 z1 z2 z3 z4; obtain ⟨z0, z1, z2, z3, z4, -, -, -, -, -⟩ := H3.out)
        | (have g := H1.out; clear g; refine ⟨trivial, ?_⟩; gi_at_call 14; refine (callsIn_wide.2 (few_any A n cp c no rd en ju B m d bs _ H1.out.x H1.out.y)).mono ?_; rintro e w2 ⟨rfl, hb⟩; rw [HF.out]; have H2 := Lib.hid (H1.out.go hb); clear hb z0 z1 z2 z3 z4; obtain ⟨z0, z1, z2, z3, z4, -, -, -, -, -⟩ := H2.out)
        | (refine ⟨trivial, ?_⟩; gi_at_call 7; refine (callsIn_wide.2 (sane_any _)).mono ?_; rintro e w1 ⟨rfl, hb⟩; have H1 := Lib.hid (H0.out.go hb); clear hb; obtain ⟨z0, z1, z2, z3, z4, -, -, -, -, -⟩ := H1.out)
        | (refine ⟨trivial, ?_⟩))
      all_goals first
        | (go_ret; exact ⟨rfl, H3.out.lo⟩)
        | (exfalso; simp only [decide_eq_true_eq, decide_eq_false_iff_not] at *; omega)
end Go.Proofs.Ythbbefkmnahnlaa
