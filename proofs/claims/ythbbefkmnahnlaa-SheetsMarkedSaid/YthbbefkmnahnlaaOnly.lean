/- The walk of SheetsOnly: it returns true. No statement is proved here. -/
import Derived.Test.YthbbefkmnahnlaaSane2
import Derived.Test.YthbbefkmnahnlaaPure1
import Derived.Test.YthbbefkmnahnlaaRchk
namespace Go.Proofs.Ythbbefkmnahnlaa
open Go.RowKit Go.Shelf
attribute [local go_sem] Oper.semAt_some

/-- What stands through a law: the sheet's box at S, the criteria, the boxes and the marks; all below S as it was. -/
structure Std (w0 : World) (S : Nat) (A : Option Addr) (n cp : Nat) (c : List Crit) (no rd en ju : Int) (B : Option Addr) (m d : Nat) (bs : List (List Int)) (C : Option Addr) (k cq : Nat) (ks : List Int) (w : World) : Prop where
  c0 : w.cell? ⟨S, 0, none⟩ = some (.int .i64 no)
  c1 : w.cell? ⟨S, 1, none⟩ = some (.int .i64 rd)
  c2 : w.cell? ⟨S, 2, none⟩ = some (.int .i64 en)
  c3 : w.cell? ⟨S, 3, none⟩ = some (.int .i64 ju)
  c4 : w.cell? ⟨S, 4, none⟩ = some (.slice B m d)
  x : Sl Crit w [] A n cp c
  y : Sl (List Int) w [] B m d bs
  z : Sl Int w [] C k cq ks
  lo : Below S w0 w
  hi : S ≤ w.heap.size

section
variable {w0 w w' : World} {S : Nat} {A : Option Addr} {n cp : Nat} {c : List Crit} {no rd en ju : Int} {B : Option Addr} {m d : Nat} {bs : List (List Int)} {C : Option Addr} {k cq : Nat} {ks : List Int}
theorem Std.go (h : Std w0 S A n cp c no rd en ju B m d bs C k cq ks w) (hb : Below w.heap.size w w') : Std w0 S A n cp c no rd en ju B m d bs C k cq ks w' := by
  have e := Keeps.of_below hb []
  exact ⟨e.cell (by simp) h.c0, e.cell (by simp) h.c1, e.cell (by simp) h.c2, e.cell (by simp) h.c3, e.cell (by simp) h.c4, h.x.keep e, h.y.keep e, h.z.keep e, h.lo.trans (hb.mono h.hi), Nat.le_trans h.hi hb.size⟩
theorem Std.drew (h : Std w0 S A n cp c no rd en ju B m d bs C k cq ks w) : Std w0 S A n cp c no rd en ju B m d bs C k cq ks w.drew := h.go (Below.refl _ _).drew
theorem Std.make {M M2 M3 : List Nat} (A : Option Addr) (n cp : Nat) (c : List Crit) (no rd en ju : Int) (B : Option Addr) (m d : Nat) (bs : List (List Int)) (C : Option Addr) (k cq : Nat) (ks : List Int) (w : World) (hx : Sl Crit w M A n cp c) (hy : Sl (List Int) w M2 B m d bs) (hz : Sl Int w M3 C k cq ks) :
    Std w w.heap.size A n cp c no rd en ju B m d bs C k cq ks (w.alloc (.cells #[.int .i64 no, .int .i64 rd, .int .i64 en, .int .i64 ju, .slice B m d] 29)) :=
  have e := (Keeps.refl [] w).alloc (.cells #[.int .i64 no, .int .i64 rd, .int .i64 en, .int .i64 ju, .slice B m d] 29)
  ⟨by simp [go_sem], by simp [go_sem], by simp [go_sem], by simp [go_sem], by simp [go_sem], (hx.less (M' := []) (by simp)).keep e, (hy.less (M' := []) (by simp)).keep e, (hz.less (M' := []) (by simp)).keep e, (Below.refl _ _).alloc (Nat.le_refl _) _, by simp⟩
end

set_option maxHeartbeats 1000000 in
theorem only_any {M M2 M3 : List Nat} (A : Option Addr) (n cp : Nat) (c : List Crit) (no rd en ju : Int) (B : Option Addr) (m d : Nat) (bs : List (List Int)) (C : Option Addr) (k cq : Nat) (ks : List Int) (w : World) (hx : Sl Crit w M A n cp c) (hy : Sl (List Int) w M2 B m d bs) (hz : Sl Int w M3 C k cq ks) :
    Calls Try.prog 6 #[.slice A n cp, .agg #[.int .i64 no, .int .i64 rd, .int .i64 en, .int .i64 ju, .slice B m d], .slice C k cq] w fun e w' => e = .returned (.bool true) ∧ Below w.heap.size w w' := by
  refine (callsIn_wide (n := 10)).1 ?_
  have h0 := Std.make A n cp c no rd en ju B m d bs C k cq ks w hx hy hz
  have hl := hx.len
  have hn := hx.small
  clear hx hy hz
  generalize hF : fewM c ⟨no, rd, en, ju, bs⟩ = bF
  generalize hC : checkM c ⟨no, rd, en, ju, bs⟩ = iC
  refine callsIn_of_wp Try.func6 rfl trivial ?_ rfl; simp only [Try.ntmps6, List.size_toArray, List.length_cons, List.length_nil, Nat.reduceAdd, Nat.reduceSub, Array.replicate_succ, Array.replicate_zero, List.push_toArray, List.append_toArray, List.nil_append, List.cons_append]
  obtain ⟨W1, hW1⟩ : ∃ W1 : World, w.alloc (.cells #[.int .i64 no, .int .i64 rd, .int .i64 en, .int .i64 ju, .slice B m d] 29) = W1 := ⟨_, rfl⟩
  rw [hW1] at h0
  have H0 := Lib.hid h0
  have HF := Lib.hid hF
  have HC := Lib.hid hC
  clear h0 hF hC
  by_cases h8 : 8 < n
  · gi_wp2_with (first
      | (refine ⟨trivial, ?_⟩; gi_at_call 7; refine (callsIn_wide.2 (sane_any _)).mono ?_; rintro e w1 ⟨rfl, hb⟩; have H1 := Lib.hid (H0.out.go hb); clear hb)
      | (refine ⟨trivial, ?_⟩))
    go_ret
    exact ⟨rfl, H1.out.lo⟩
  cases bF
  · gi_wp2_with (first
      | (have g := H1.out; clear g; refine ⟨trivial, ?_⟩; gi_at_call 14; refine (callsIn_wide.2 (few_any A n cp c no rd en ju B m d bs _ H1.out.x H1.out.y)).mono ?_; rintro e w2 ⟨rfl, hb⟩; rw [HF.out]; have H2 := Lib.hid (H1.out.go hb); clear hb)
      | (refine ⟨trivial, ?_⟩; gi_at_call 7; refine (callsIn_wide.2 (sane_any _)).mono ?_; rintro e w1 ⟨rfl, hb⟩; have H1 := Lib.hid (H0.out.go hb); clear hb; obtain ⟨z0, z1, z2, z3, z4, -, -, -, -, -⟩ := H1.out)
      | (refine ⟨trivial, ?_⟩))
    all_goals first
      | (go_ret; exact ⟨rfl, H2.out.lo⟩)
      | (exfalso; simp only [decide_eq_true_eq, decide_eq_false_iff_not] at *; omega)
  · have hC2 := HC.out
    by_cases hi : iC = 0
    · subst hi
      obtain ⟨ha, -, -, -⟩ := check_zero hC2
      have HA := Lib.hid ha
      clear hC2 ha
      generalize hk : scaledM c ks = bK
      have HK := Lib.hid hk
      clear hk
      cases bK
      · gi_wp2_with (first
          | (have g := H3.out; clear g; refine ⟨trivial, ?_⟩; gi_at_call 13; refine (callsIn_wide.2 (scaled_any A C n cp k cq c ks _ H3.out.x H3.out.z (by omega) HA.out)).mono ?_; rintro e w4 ⟨rfl, hb⟩; rw [HK.out]; have H4 := Lib.hid (H3.out.go hb); clear hb z0 z1 z2 z3 z4; obtain ⟨z0, z1, z2, z3, z4, -, -, -, -, -⟩ := H4.out)
          | (have g := H2.out; clear g; refine ⟨trivial, ?_⟩; gi_at_call 15; refine (callsIn_wide.2 (rcheck_any A n cp c no rd en ju B m d bs _ H2.out.x H2.out.y)).mono ?_; rintro e w3 ⟨rfl, hb⟩; rw [HC.out]; have H3 := Lib.hid (H2.out.go hb); clear hb z0 z1 z2 z3 z4; obtain ⟨z0, z1, z2, z3, z4, -, -, -, -, -⟩ := H3.out)
          | (have g := H1.out; clear g; refine ⟨trivial, ?_⟩; gi_at_call 14; refine (callsIn_wide.2 (few_any A n cp c no rd en ju B m d bs _ H1.out.x H1.out.y)).mono ?_; rintro e w2 ⟨rfl, hb⟩; rw [HF.out]; have H2 := Lib.hid (H1.out.go hb); clear hb z0 z1 z2 z3 z4; obtain ⟨z0, z1, z2, z3, z4, -, -, -, -, -⟩ := H2.out)
          | (refine ⟨trivial, ?_⟩; gi_at_call 7; refine (callsIn_wide.2 (sane_any _)).mono ?_; rintro e w1 ⟨rfl, hb⟩; have H1 := Lib.hid (H0.out.go hb); clear hb; obtain ⟨z0, z1, z2, z3, z4, -, -, -, -, -⟩ := H1.out)
          | (refine ⟨trivial, ?_⟩))
        all_goals first
          | (go_ret; exact ⟨rfl, H4.out.lo⟩)
          | (exfalso; simp only [decide_eq_true_eq, decide_eq_false_iff_not] at *; omega)
      · obtain ⟨hr0, hr1, hr2, hr3, hr4, hg1, hg2⟩ := only_law (s := ⟨no, rd, en, ju, bs⟩) HC.out HK.out
        generalize hq : readM c ⟨no, rd, en, ju, bs⟩ = q at *
        obtain ⟨ms, xs, qe⟩ := q
        simp only at hr0 hr1 hr2 hr4 hg1 hg2
        subst hr0
        generalize hcl : xs.all (fun v => decide (v ≤ 1)) = cl at *
        generalize hsm : sameM ms ks = sm at *
        have HQ := Lib.hid hq
        have HL1 := Lib.hid (hr1.trans hl)
        have HL2 := Lib.hid (hr2.trans hl)
        have HR4 := Lib.hid hr4
        have HG1 := Lib.hid hg1
        have HG2 := Lib.hid hg2
        have HCL := Lib.hid hcl
        have HSM := Lib.hid hsm
        clear hr1 hr2 hr3 hr4 hg1 hg2 hq hcl hsm hl
        gi_wp2_with (first
          | (have g := H6.out; clear g; refine ⟨trivial, ?_⟩; gi_at_call 11; refine (callsIn_wide.2 (agrees_any A n2 cp c no rd en ju B m d bs A1 n1 cp1 ms _ H6.out.x H6.out.y HT1.out)).mono ?_; rintro e w7 ⟨rfl, hb⟩; rw [HG2.out]; have HU1 := Lib.hid (HT1.out.keep (Keeps.of_below hb [])); have HU2 := Lib.hid (HT2.out.keep (Keeps.of_below hb [])); have H7 := Lib.hid (H6.out.go hb); clear hb z0 z1 z2 z3 z4)
          | (have g := H5.out; clear g; refine ⟨trivial, ?_⟩; gi_at_call 11; refine (callsIn_wide.2 (agrees_any A n2 cp c no rd en ju B m d bs C k cq ks _ H5.out.x H5.out.y H5.out.z)).mono ?_; rintro e w6 ⟨rfl, hb⟩; rw [HG1.out]; have HT1 := Lib.hid (HS1.out.keep (Keeps.of_below hb [])); have HT2 := Lib.hid (HS2.out.keep (Keeps.of_below hb [])); have H6 := Lib.hid (H5.out.go hb); clear hb z0 z1 z2 z3 z4; obtain ⟨z0, z1, z2, z3, z4, -, -, -, -, -⟩ := H6.out)
          | (have g := H4.out; clear g; refine ⟨trivial, ?_⟩; gi_at_call 10; refine (callsIn_wide.2 (read_any A n cp c no rd en ju B m d bs _ H4.out.x H4.out.y)).mono ?_; rintro e w5 ⟨A1, n1, cp1, A2, n2, cp2, rfl, hs, hb⟩; obtain ⟨hs1, hs2⟩ := hs [] (by simp); rw [HQ.out] at hs1 hs2 ⊢; obtain rfl : n2 = n := hs2.len.symm.trans HL2.out; have HS1 := Lib.hid hs1; have HS2 := Lib.hid hs2; have H5 := Lib.hid (H4.out.go hb); clear hb hs hs1 hs2 z0 z1 z2 z3 z4; obtain ⟨z0, z1, z2, z3, z4, -, -, -, -, -⟩ := H5.out)
          | (have g := H3.out; clear g; refine ⟨trivial, ?_⟩; gi_at_call 13; refine (callsIn_wide.2 (scaled_any A C n cp k cq c ks _ H3.out.x H3.out.z (by omega) HA.out)).mono ?_; rintro e w4 ⟨rfl, hb⟩; rw [HK.out]; have H4 := Lib.hid (H3.out.go hb); clear hb z0 z1 z2 z3 z4; obtain ⟨z0, z1, z2, z3, z4, -, -, -, -, -⟩ := H4.out)
          | (have g := H2.out; clear g; refine ⟨trivial, ?_⟩; gi_at_call 15; refine (callsIn_wide.2 (rcheck_any A n cp c no rd en ju B m d bs _ H2.out.x H2.out.y)).mono ?_; rintro e w3 ⟨rfl, hb⟩; rw [HC.out]; have H3 := Lib.hid (H2.out.go hb); clear hb z0 z1 z2 z3 z4; obtain ⟨z0, z1, z2, z3, z4, -, -, -, -, -⟩ := H3.out)
          | (have g := H1.out; clear g; refine ⟨trivial, ?_⟩; gi_at_call 14; refine (callsIn_wide.2 (few_any A n cp c no rd en ju B m d bs _ H1.out.x H1.out.y)).mono ?_; rintro e w2 ⟨rfl, hb⟩; rw [HF.out]; have H2 := Lib.hid (H1.out.go hb); clear hb z0 z1 z2 z3 z4; obtain ⟨z0, z1, z2, z3, z4, -, -, -, -, -⟩ := H2.out)
          | (refine ⟨trivial, ?_⟩; gi_at_call 7; refine (callsIn_wide.2 (sane_any _)).mono ?_; rintro e w1 ⟨rfl, hb⟩; have H1 := Lib.hid (H0.out.go hb); clear hb; obtain ⟨z0, z1, z2, z3, z4, -, -, -, -, -⟩ := H1.out)
          | (refine ⟨trivial, ?_⟩))
        all_goals first
          | (exfalso; simp only [decide_eq_true_eq, decide_eq_false_iff_not] at *; omega)
          | skip
        gi_loopw [80, 14] (fun i a wr => ∃ (j : Nat) (ab : Bool), j ≤ n2 ∧ i = .int .i64 j ∧ a = .bool ab ∧ Hid ((ab && (xs.drop j).all (fun v => decide (v ≤ 1))) = cl) ∧ Below w7.heap.size w7 wr) (fun i _ _ => n2 - (intOf i).toNat)
        case atStart => exact ⟨0, true, by omega, rfl, rfl, by rw [Bool.true_and]; exact HCL, Below.refl _ _⟩
        case round =>
          obtain ⟨j, ab, hj, rfl, rfl, hr, hb⟩ := hrel
          by_cases hlt : j < n2
          · obtain ⟨b, o, x, rfl, hc, -, hd, hjx⟩ := (HU2.out.keep (Keeps.of_below hb [])).intd hlt
            have hx := HR4.out x (List.mem_of_getElem? hjx)
            have hr2 := hr.out
            rw [hd, List.all_cons, ← Bool.and_assoc] at hr2
            have HR2 := Lib.hid hr2
            clear hr2 hd hjx hr
            have d7 := stays_drew hc
            cases ab
            · gi_wp2
              go_roundw
              case rel => exact ⟨j + 1, false, by omega, by go_num, rfl, HR2, hb⟩
              case measure => simp [intOf]; omega
            · by_cases h1 : x ≤ 1
              · rw [decide_eq_true h1] at HR2
                gi_wp2
                go_roundw
                case rel => exact ⟨j + 1, true, by omega, by go_num, rfl, HR2, hb⟩
                case measure => simp [intOf]; omega
              · rw [decide_eq_false h1] at HR2
                gi_wp2
                go_roundw
                case rel => exact ⟨j + 1, false, by omega, by go_num, rfl, HR2, hb⟩
                case measure => simp [intOf]; omega
          · have hr2 := hr.out
            rw [List.drop_of_length_le (by rw [HU2.out.len]; omega), List.all_nil, Bool.and_true] at hr2
            subst hr2
            have HV1 := Lib.hid (HU1.out.keep (Keeps.of_below hb []))
            have H8 := Lib.hid (H7.out.go hb)
            clear hr
            cases ab
            · gi_wp2_with (refine ⟨trivial, ?_⟩)
              go_ret
              exact ⟨rfl, H8.out.lo⟩
            · cases sm
              · gi_wp2_with (refine ⟨trivial, ?_⟩; gi_at_call 12; refine (callsIn_wide.2 (same_any A1 C n1 cp1 k cq ms ks _ HV1.out H8.out.z (by have e1 := HV1.out.len; have e2 : ms.length = n2 := HL1.out; omega))).mono ?_; rintro e w9 ⟨rfl, hb9⟩; rw [HSM.out]; have H9 := Lib.hid (H8.out.go hb9); clear hb9)
                go_ret
                exact ⟨rfl, H9.out.lo⟩
              · gi_wp2_with (refine ⟨trivial, ?_⟩; gi_at_call 12; refine (callsIn_wide.2 (same_any A1 C n1 cp1 k cq ms ks _ HV1.out H8.out.z (by have e1 := HV1.out.len; have e2 : ms.length = n2 := HL1.out; omega))).mono ?_; rintro e w9 ⟨rfl, hb9⟩; rw [HSM.out]; have H9 := Lib.hid (H8.out.go hb9); clear hb9)
                go_ret
                exact ⟨rfl, H9.out.lo⟩
    · have hi2 : (iC != 0) = true := by simpa using hi
      gi_wp2_with (first
        | (have g := H2.out; clear g; refine ⟨trivial, ?_⟩; gi_at_call 15; refine (callsIn_wide.2 (rcheck_any A n cp c no rd en ju B m d bs _ H2.out.x H2.out.y)).mono ?_; rintro e w3 ⟨rfl, hb⟩; rw [HC.out]; have H3 := Lib.hid (H2.out.go hb); clear hb z0 z1 z2 z3 z4; obtain ⟨z0, z1, z2, z3, z4, -, -, -, -, -⟩ := H3.out)
        | (have g := H1.out; clear g; refine ⟨trivial, ?_⟩; gi_at_call 14; refine (callsIn_wide.2 (few_any A n cp c no rd en ju B m d bs _ H1.out.x H1.out.y)).mono ?_; rintro e w2 ⟨rfl, hb⟩; rw [HF.out]; have H2 := Lib.hid (H1.out.go hb); clear hb z0 z1 z2 z3 z4; obtain ⟨z0, z1, z2, z3, z4, -, -, -, -, -⟩ := H2.out)
        | (refine ⟨trivial, ?_⟩; gi_at_call 7; refine (callsIn_wide.2 (sane_any _)).mono ?_; rintro e w1 ⟨rfl, hb⟩; have H1 := Lib.hid (H0.out.go hb); clear hb; obtain ⟨z0, z1, z2, z3, z4, -, -, -, -, -⟩ := H1.out)
        | (refine ⟨trivial, ?_⟩))
      all_goals first
        | (go_ret; exact ⟨rfl, H3.out.lo⟩)
        | (exfalso; simp only [decide_eq_true_eq, decide_eq_false_iff_not] at *; omega)
end Go.Proofs.Ythbbefkmnahnlaa
