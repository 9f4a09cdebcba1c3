/- The walk of SheetsMarked: it returns true. No statement is proved here. -/
import Derived.Test.YthbbefkmnahnlaaOnly
import Derived.Test.YthbbefkmnahnlaaPure3
namespace Go.Proofs.Ythbbefkmnahnlaa
open Go.RowKit Go.Shelf
attribute [local go_sem] Oper.semAt_some

/-- The criteria and two lists of marks; all below the first world's size as it was. -/
structure Args3 (w0 : World) (A : Option Addr) (n cp : Nat) (c : List Crit) (C : Option Addr) (k cq : Nat) (ks : List Int) (D : Option Addr) (q dq : Nat) (os : List Int) (w : World) : Prop where
  x : Sl Crit w [] A n cp c
  z : Sl Int w [] C k cq ks
  u : Sl Int w [] D q dq os
  lo : Below w0.heap.size w0 w

theorem Args3.go {w0 w w' : World} {A : Option Addr} {n cp : Nat} {c : List Crit} {C : Option Addr} {k cq : Nat} {ks : List Int} {D : Option Addr} {q dq : Nat} {os : List Int} (h : Args3 w0 A n cp c C k cq ks D q dq os w) (hb : Below w.heap.size w w') :
    Args3 w0 A n cp c C k cq ks D q dq os w' :=
  have e := Keeps.of_below hb []
  ⟨h.x.keep e, h.z.keep e, h.u.keep e, h.lo.trans (hb.mono h.lo.size)⟩

/-- A sheet without numbers in block b. -/
structure Shb (b : Nat) (B : Option Addr) (m d : Nat) (bs : List (List Int)) (w : World) : Prop where
  c0 : w.cell? ⟨b, 0, none⟩ = some (.int .i64 0)
  c1 : w.cell? ⟨b, 1, none⟩ = some (.int .i64 0)
  c2 : w.cell? ⟨b, 2, none⟩ = some (.int .i64 0)
  c3 : w.cell? ⟨b, 3, none⟩ = some (.int .i64 0)
  c4 : w.cell? ⟨b, 4, none⟩ = some (.slice B m d)
  y : Sl (List Int) w [] B m d bs

theorem Shb.go {b : Nat} {B : Option Addr} {m d : Nat} {bs : List (List Int)} {w w' : World} (h : Shb b B m d bs w) (hb : Below w.heap.size w w') : Shb b B m d bs w' :=
  have e := Keeps.of_below hb []
  ⟨e.cell (by simp) h.c0, e.cell (by simp) h.c1, e.cell (by simp) h.c2, e.cell (by simp) h.c3, e.cell (by simp) h.c4, h.y.keep e⟩

theorem rightM_true {c : List Crit} {ks : List Int} (h : rightM c ks = true) : c.length ≤ 8 ∧ c.all rightB = true ∧ scaledM c ks = true := by
  simp only [rightM, Bool.and_eq_true, decide_eq_true_eq, beq_iff_eq] at h
  obtain ⟨h1, h2, h3⟩ := h
  refine ⟨h1, ?_, h3⟩
  unfold errM at h2
  rw [if_neg (by omega)] at h2
  by_cases hg : c.all rightB = true
  · exact hg
  · rw [if_neg hg] at h2; cases h2

set_option maxHeartbeats 1000000 in
theorem marked_any {M M2 M3 : List Nat} (A : Option Addr) (n cp : Nat) (c : List Crit) (C : Option Addr) (k cq : Nat) (ks : List Int) (D : Option Addr) (q dq : Nat) (os : List Int) (w : World) (hx : Sl Crit w M A n cp c) (hz : Sl Int w M2 C k cq ks) (hu : Sl Int w M3 D q dq os) :
    Calls Try.prog 3 #[.slice A n cp, .slice C k cq, .slice D q dq] w fun e w' => e = .returned (.bool true) ∧ Below w.heap.size w w' := by
  refine (callsIn_wide (n := 10)).1 ?_
  have h0 : Args3 w A n cp c C k cq ks D q dq os w := ⟨hx.less (by simp), hz.less (by simp), hu.less (by simp), Below.refl _ _⟩
  have H0 := Lib.hid h0
  have hl := hx.len
  have hl2 := hz.len
  have hn := hx.small
  have hq := hu.small
  clear hx hz hu h0
  generalize hR : rightM c ks = bR
  have HR := Lib.hid hR
  clear hR
  refine callsIn_of_wp Try.func3 rfl trivial ?_ rfl; simp only [Try.ntmps3, List.size_toArray, List.length_cons, List.length_nil, Nat.reduceAdd, Nat.reduceSub, Array.replicate_succ, Array.replicate_zero, List.push_toArray, List.append_toArray, List.nil_append, List.cons_append]
  cases bR
  · gi_wp2_with (first
      | (have g := H1.out; clear g; refine ⟨trivial, ?_⟩; gi_at_call 8; refine (callsIn_wide.2 (right_any A C n cp k cq c ks _ H1.out.x H1.out.z)).mono ?_; rintro e w2 ⟨rfl, hb⟩; rw [HR.out]; have H2 := Lib.hid (H1.out.go hb); clear hb)
      | (refine ⟨trivial, ?_⟩; gi_at_call 7; refine (callsIn_wide.2 (sane_any _)).mono ?_; rintro e w1 ⟨rfl, hb⟩; have H1 := Lib.hid (H0.out.go hb); clear hb)
      | (refine ⟨trivial, ?_⟩))
    go_ret
    exact ⟨rfl, H2.out.lo⟩
  · obtain ⟨h8, ha, hk⟩ := rightM_true HR.out
    have hkn : k = n := by rw [← hl2, scaled_len hk, hl]
    subst hkn
    obtain ⟨q1, q2⟩ := marked_law (by omega) ha hk
    have HA := Lib.hid ha
    have HK := Lib.hid hk
    have HQ1 := Lib.hid q1
    have HQ2 := Lib.hid q2
    have HL2 := Lib.hid hl2
    rw [hl] at h8
    generalize hso : scaledM c os = bS
    generalize hsm : sameM ks os = sm
    have HSo := Lib.hid hso
    have HSm := Lib.hid hsm
    clear ha hk q1 q2 hl hl2 hso hsm
    gi_wp2_with (first
      | (have g := H6.out; clear g; refine ⟨trivial, ?_⟩; gi_at_call 12; refine (callsIn_wide.2 (same_any A1 C n1 cp1 k cq ks ks _ HT1.out H6.out.z (by have e1 := HT1.out.len; have e2 : ks.length = k := HL2.out; omega))).mono ?_; rintro e w7 ⟨rfl, hb⟩; rw [same_refl]; have HU2 := Lib.hid (HT2.out.keep (Keeps.of_below hb [])); have H7 := Lib.hid (H6.out.go hb); have HB7 := Lib.hid (HB6.out.go hb); clear hb; clear z0 z1 z2 z3 z4; obtain ⟨z0, z1, z2, z3, z4, -⟩ := HB7.out)
      | (have g := H5.out; clear g; refine ⟨trivial, ?_⟩; gi_at_call 11; refine (callsIn_wide.2 (agrees_any A k cp c 0 0 0 0 O k cO (fillM c ks) C k cq ks _ H5.out.x HB5.out.y H5.out.z)).mono ?_; rintro e w6 ⟨rfl, hb⟩; rw [HQ2.out, if_pos HK.out, same_refl]; have HT1 := Lib.hid (HS1.out.keep (Keeps.of_below hb [])); have HT2 := Lib.hid (HS2.out.keep (Keeps.of_below hb [])); have H6 := Lib.hid (H5.out.go hb); have HB6 := Lib.hid (HB5.out.go hb); clear hb; clear z0 z1 z2 z3 z4; obtain ⟨z0, z1, z2, z3, z4, -⟩ := HB6.out)
      | (have g := H4.out; clear g; refine ⟨trivial, ?_⟩; gi_at_call 10; refine (callsIn_wide.2 (read_any A k cp c 0 0 0 0 O k cO (fillM c ks) _ H4.out.x HB4.out.y)).mono ?_; rintro e w5 ⟨A1, n1, cp1, A2, n2, cp2, rfl, hs, hb⟩; obtain ⟨hs1, hs2⟩ := hs [] (by simp); rw [HQ1.out] at hs1 hs2 ⊢; obtain rfl : k = n2 := (show ks.length = k from HL2.out).symm.trans ((List.length_map _).symm.trans hs2.len); have HS1 := Lib.hid hs1; have HS2 := Lib.hid hs2; have H5 := Lib.hid (H4.out.go hb); have HB5 := Lib.hid (HB4.out.go hb); clear hb hs hs1 hs2; clear z0 z1 z2 z3 z4; obtain ⟨z0, z1, z2, z3, z4, -⟩ := HB5.out)
      | (have g := H2.out; clear g; refine ⟨trivial, ?_⟩; gi_at_call 9; refine (callsIn_wide.2 (fill_any A C k cp cq c ks _ H2.out.x H2.out.z (by omega) HA.out HK.out)).mono ?_; rintro e w3 ⟨v3, rs3, rfl, hg, hrs, hb⟩; obtain ⟨O, cO, rfl, hsl⟩ := hg.sl (by omega); rw [hrs] at hsl; have hsb : Shb w3.heap.size O k cO (fillM c ks) (w3.alloc (.cells #[.int .i64 0, .int .i64 0, .int .i64 0, .int .i64 0, .slice O k cO] 29)) := ⟨by simp [go_sem], by simp [go_sem], by simp [go_sem], by simp [go_sem], by simp [go_sem], hsl.keep ((Keeps.refl _ _).alloc _)⟩; obtain ⟨W4, hW4⟩ : ∃ W4 : World, w3.alloc (.cells #[.int .i64 0, .int .i64 0, .int .i64 0, .int .i64 0, .slice O k cO] 29) = W4 := ⟨_, rfl⟩; rw [hW4] at hsb; have H4 := Lib.hid ((H2.out.go hb).go (show Below w3.heap.size w3 W4 from (by rw [← hW4]; exact (Below.refl _ _).alloc (Nat.le_refl _) _))); have HB4 := Lib.hid hsb; clear hb hg hrs hsl hsb; obtain ⟨z0, z1, z2, z3, z4, -⟩ := HB4.out)
      | (have g := H1.out; clear g; refine ⟨trivial, ?_⟩; gi_at_call 8; refine (callsIn_wide.2 (right_any A C k cp k cq c ks _ H1.out.x H1.out.z)).mono ?_; rintro e w2 ⟨rfl, hb⟩; rw [HR.out]; have H2 := Lib.hid (H1.out.go hb); clear hb)
      | (refine ⟨trivial, ?_⟩; gi_at_call 7; refine (callsIn_wide.2 (sane_any _)).mono ?_; rintro e w1 ⟨rfl, hb⟩; have H1 := Lib.hid (H0.out.go hb); clear hb)
      | fail)
    gi_loopw [66] (fun i wr => ∃ j : Nat, j ≤ k ∧ i = .int .i64 j ∧ Below w7.heap.size w7 wr) (fun i _ => k - (intOf i).toNat)
    case atStart => exact ⟨0, by omega, rfl, Below.refl _ _⟩
    case round =>
      obtain ⟨j, hj, rfl, hb⟩ := hrel
      by_cases hlt : j < k
      · obtain ⟨b, o, x, rfl, hc, -, -, hjx⟩ := (HU2.out.keep (Keeps.of_below hb [])).intd hlt
        obtain ⟨b2, o2, y, rfl, hc2, -, -, hjy⟩ := (H7.out.go hb).z.intd hlt
        have hxy : x = if y = -1 then 1 else 0 := by
          rw [List.getElem?_map, hjy] at hjx
          exact (Option.some.inj hjx).symm
        clear hjx hjy
        have d1 := stays_drew hc
        have d2 := stays_drew hc2
        by_cases hy : y = -1
        · rw [if_pos hy] at hxy
          subst hy; subst hxy
          gi_wp2
          go_roundw
          case rel => exact ⟨j + 1, by omega, by go_num, hb⟩
          case measure => simp [intOf]; omega
        · rw [if_neg hy] at hxy
          subst hxy
          have hy2 : (y == -1) = false := by simpa using hy
          have hy3 : (y != -1) = true := by simpa using hy
          gi_wp2
          go_roundw
          case rel => exact ⟨j + 1, by omega, by go_num, hb⟩
          case measure => simp [intOf]; omega
      · have H8 := Lib.hid (H7.out.go hb)
        have HB8 := Lib.hid (HB7.out.go hb)
        clear z0 z1 z2 z3 z4; obtain ⟨z0, z1, z2, z3, z4, -⟩ := HB8.out
        by_cases h100 : 100 < q
        · gi_wp2
          go_ret
          exact ⟨rfl, H8.out.lo⟩
        · cases bS
          · gi_wp2_with (first
              | (refine ⟨trivial, ?_⟩; gi_at_call 11; refine (callsIn_wide.2 (agrees_any A k cp c 0 0 0 0 O k cO (fillM c ks) D q dq os _ H8.out.x HB8.out.y H8.out.u)).mono ?_; rintro e w9 ⟨rfl, hb⟩; rw [HQ2.out, if_neg (by rw [HSo.out]; decide)]; have H9 := Lib.hid (H8.out.go hb); clear hb)
              | (refine ⟨trivial, ?_⟩; gi_at_call 13; refine (callsIn_wide.2 (scaled_any A D k cp q dq c os _ H9.out.x H9.out.u (by omega) HA.out)).mono ?_; rintro e w10 ⟨rfl, hb⟩; rw [HSo.out]; have H10 := Lib.hid (H9.out.go hb); clear hb)
              | (refine ⟨trivial, ?_⟩))
            go_ret
            exact ⟨rfl, H10.out.lo⟩
          · cases sm
            · gi_wp2_with (first
                | (refine ⟨trivial, ?_⟩; gi_at_call 11; refine (callsIn_wide.2 (agrees_any A k cp c 0 0 0 0 O k cO (fillM c ks) D q dq os _ H8.out.x HB8.out.y H8.out.u)).mono ?_; rintro e w9 ⟨rfl, hb⟩; rw [HQ2.out, if_pos HSo.out, HSm.out]; have H9 := Lib.hid (H8.out.go hb); clear hb)
                | (refine ⟨trivial, ?_⟩; gi_at_call 13; refine (callsIn_wide.2 (scaled_any A D k cp q dq c os _ H9.out.x H9.out.u (by omega) HA.out)).mono ?_; rintro e w10 ⟨rfl, hb⟩; rw [HSo.out]; have H10 := Lib.hid (H9.out.go hb); clear hb)
                | (refine ⟨trivial, ?_⟩; gi_at_call 12; refine (callsIn_wide.2 (same_any C D k cq q dq ks os _ H10.out.z H10.out.u (by omega))).mono ?_; rintro e w11 ⟨rfl, hb⟩; rw [HSm.out]; have H11 := Lib.hid (H10.out.go hb); clear hb)
                | (refine ⟨trivial, ?_⟩))
              go_ret
              exact ⟨rfl, H11.out.lo⟩
            · gi_wp2_with (first
                | (refine ⟨trivial, ?_⟩; gi_at_call 11; refine (callsIn_wide.2 (agrees_any A k cp c 0 0 0 0 O k cO (fillM c ks) D q dq os _ H8.out.x HB8.out.y H8.out.u)).mono ?_; rintro e w9 ⟨rfl, hb⟩; rw [HQ2.out, if_pos HSo.out, HSm.out]; have H9 := Lib.hid (H8.out.go hb); clear hb)
                | (refine ⟨trivial, ?_⟩; gi_at_call 13; refine (callsIn_wide.2 (scaled_any A D k cp q dq c os _ H9.out.x H9.out.u (by omega) HA.out)).mono ?_; rintro e w10 ⟨rfl, hb⟩; rw [HSo.out]; have H10 := Lib.hid (H9.out.go hb); clear hb)
                | (refine ⟨trivial, ?_⟩; gi_at_call 12; refine (callsIn_wide.2 (same_any C D k cq q dq ks os _ H10.out.z H10.out.u (by omega))).mono ?_; rintro e w11 ⟨rfl, hb⟩; rw [HSm.out]; have H11 := Lib.hid (H10.out.go hb); clear hb)
                | (refine ⟨trivial, ?_⟩))
              go_ret
              exact ⟨rfl, H11.out.lo⟩
end Go.Proofs.Ythbbefkmnahnlaa
