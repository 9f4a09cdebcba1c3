/- The walk of SheetsError: it returns true. No statement is proved here. -/
import Derived.Test.YthbbefkmnahnlaaMarked
import Derived.Test.YthbbefkmnahnlaaPure4
namespace Go.Proofs.Ythbbefkmnahnlaa
open Go.RowKit Go.Shelf
attribute [local go_sem] Oper.semAt_some

theorem row_of {rs : List (Nat × List Int)} {i : Nat} {l : List Int} (h : (rs.map Prod.snd)[i]? = some l) : ∃ g, rs[i]? = some (g, l) := by
  rw [List.getElem?_map] at h
  obtain ⟨⟨g, l'⟩, h1, h2⟩ := Option.map_eq_some_iff.1 h
  exact ⟨g, by rw [h1]; simp at h2; rw [h2]⟩

theorem tmod_lt {a : Int} (h0 : 0 ≤ a) {n : Nat} (hn : 0 < n) : ∃ k : Nat, k < n ∧ a.tmod (n : Int) = (k : Int) := by
  have h1 : 0 ≤ a.tmod (n : Int) := Int.tmod_nonneg _ h0
  have h2 : a.tmod (n : Int) < (n : Int) := Int.tmod_lt_of_pos _ (by omega)
  exact ⟨(a.tmod (n : Int)).toNat, by omega, by omega⟩

set_option maxHeartbeats 2000000 in
set_option maxRecDepth 100000 in
theorem errlaw_any {M M2 : List Nat} (A : Option Addr) (n cp : Nat) (c : List Crit) (C : Option Addr) (k0 cq : Nat) (ks : List Int) (at_ : Int) (ha0 : 0 ≤ at_) (ha1 : at_ ≤ 65535) (bx : Int) (hb0 : 0 ≤ bx) (hb1 : bx ≤ 65535) (as_ : Int) (hs0 : 0 ≤ as_) (hs1 : as_ ≤ 255)
    (w : World) (hx : Sl Crit w M A n cp c) (hz : Sl Int w M2 C k0 cq ks) :
    Calls Try.prog 4 #[.slice A n cp, .slice C k0 cq, .int .u16 at_, .int .u16 bx, .int .u8 as_] w fun e w' => e = .returned (.bool true) ∧ Below w.heap.size w w' := by
  refine (callsIn_wide (n := 10)).1 ?_
  have h0 : Args3 w A n cp c C k0 cq ks none 0 0 [] w := ⟨hx.less (by simp), hz.less (by simp), Sl.nil_, Below.refl _ _⟩
  have H0 := Lib.hid h0
  have hl := hx.len
  have hl2 := hz.len
  have hn := hx.small
  generalize hR : rightM c ks = bR
  have HR := Lib.hid hR
  clear hR
  cases bR
  · clear hx hz h0
    refine callsIn_of_wp Try.func4 rfl trivial ?_ rfl; simp only [Try.ntmps4, List.size_toArray, List.length_cons, List.length_nil, Nat.reduceAdd, Nat.reduceSub, Array.replicate_succ, Array.replicate_zero, List.push_toArray, List.append_toArray, List.nil_append, List.cons_append]
    gi_wp2_with (first
      | (have g := H1.out; clear g; refine ⟨trivial, ?_⟩; gi_at_call 8; refine (callsIn_wide.2 (right_any A C n cp k0 cq c ks _ H1.out.x H1.out.z)).mono ?_; rintro e w2 ⟨rfl, hb⟩; rw [HR.out]; have H2 := Lib.hid (H1.out.go hb); clear hb)
      | (refine ⟨trivial, ?_⟩; gi_at_call 7; refine (callsIn_wide.2 (sane_any _)).mono ?_; rintro e w1 ⟨rfl, hb⟩; have H1 := Lib.hid (H0.out.go hb); clear hb)
      | (refine ⟨trivial, ?_⟩))
    go_ret
    exact ⟨rfl, H2.out.lo⟩
  by_cases hn0 : n = 0
  · clear hx hz h0
    subst hn0
    refine callsIn_of_wp Try.func4 rfl trivial ?_ rfl; simp only [Try.ntmps4, List.size_toArray, List.length_cons, List.length_nil, Nat.reduceAdd, Nat.reduceSub, Array.replicate_succ, Array.replicate_zero, List.push_toArray, List.append_toArray, List.nil_append, List.cons_append]
    gi_wp2_with (first
      | (have g := H1.out; clear g; refine ⟨trivial, ?_⟩; gi_at_call 8; refine (callsIn_wide.2 (right_any A C 0 cp k0 cq c ks _ H1.out.x H1.out.z)).mono ?_; rintro e w2 ⟨rfl, hb⟩; rw [HR.out]; have H2 := Lib.hid (H1.out.go hb); clear hb)
      | (refine ⟨trivial, ?_⟩; gi_at_call 7; refine (callsIn_wide.2 (sane_any _)).mono ?_; rintro e w1 ⟨rfl, hb⟩; have H1 := Lib.hid (H0.out.go hb); clear hb)
      | (refine ⟨trivial, ?_⟩))
    go_ret
    exact ⟨rfl, H2.out.lo⟩
  obtain ⟨h8, ha, hk⟩ := rightM_true HR.out
  obtain rfl : n = k0 := by rw [← hl2, scaled_len hk, hl]
  obtain ⟨i, hi, hrem1⟩ := tmod_lt ha0 (show 0 < n by omega)
  obtain ⟨bA, oA, s, lo, hh, st, how, tr, rv, hA, hci, -, -, -, -, -, -, -, -, -⟩ := hx.critd hi
  obtain ⟨bC, oC, y, hC, -, -, -, hki⟩ := hz.intd hi
  subst hA; subst hC
  have hrB : rightB ⟨s, lo, hh, st, how, tr, rv⟩ = true := List.all_eq_true.1 ha _ (List.mem_of_getElem? hci)
  obtain ⟨hN1, hN2, hN3⟩ := boxN_facts hrB
  obtain ⟨kk, hkk, hrem2⟩ := tmod_lt hb0 (show 0 < boxN ⟨s, lo, hh, st, how, tr, rv⟩ by omega)
  obtain ⟨b0, hb3, hrem3⟩ := tmod_lt hs0 (show 0 < 3 by omega)
  obtain ⟨b, hbb⟩ : ∃ b : Int, b = (b0 : Int) := ⟨_, rfl⟩
  rw [← hbb] at hrem3
  have hb02 : 0 ≤ b ∧ b ≤ 2 := by omega
  have hkl : kk < (boxF ⟨s, lo, hh, st, how, tr, rv⟩ y).length := by rw [boxF_len]; exact hkk
  obtain ⟨q, hq⟩ : ∃ q, (boxF ⟨s, lo, hh, st, how, tr, rv⟩ y)[kk]? = some q := ⟨_, List.getElem?_eq_getElem hkl⟩
  have hq01 := boxF_01 _ _ q (List.mem_of_getElem? hq)
  have hlaw := fun hne => error_law (by omega) ha hk hci hki hkk hb02 hne
  have hbx := fill_at hci hki
  have hstf := right_step hrB
  simp only at hstf hN1
  have hkst : (kk : Int) * st ≤ hh - lo := by
    rw [← hstf.2.2.2.1]
    exact Int.mul_le_mul_of_nonneg_right (by omega) (by omega)
  have hkst0 : 0 ≤ (kk : Int) * st := Int.mul_nonneg (by omega) (by omega)
  obtain ⟨⟨r1, r2, r3⟩, r4, -, -, -, -⟩ := rightB_facts hrB
  simp only at r1 r2 r3 r4
  generalize hXX : (⟨s, lo, hh, st, how, tr, rv⟩ : Crit) = X at *
  generalize hNN : boxN X = N at *
  have HA := Lib.hid ha
  have HK := Lib.hid hk
  have HN := Lib.hid hNN
  have HBX := Lib.hid hbx
  have HQK := Lib.hid hq
  have HL := Lib.hid hl
  have HL2 := Lib.hid hl2
  have HCI := Lib.hid hci
  have HKI := Lib.hid hki
  have HXX := Lib.hid hXX
  have HLW := Lib.hid hlaw
  rw [hl] at h8
  have hrem3' : as_.tmod 3 = b := hrem3
  clear hx hz h0 ha hk hrB hN1 hkl hq hlaw hbx hstf hNN hl hl2 hci hki hXX hbb hrem3 hb3
  refine callsIn_of_wp Try.func4 rfl trivial ?_ rfl; simp only [Try.ntmps4, List.size_toArray, List.length_cons, List.length_nil, Nat.reduceAdd, Nat.reduceSub, Array.replicate_succ, Array.replicate_zero, List.push_toArray, List.append_toArray, List.nil_append, List.cons_append]
  by_cases hqb : q = b
  · subst hqb
    gi_wp2_with (first
      | (have g := H2.out; clear g; refine ⟨trivial, ?_⟩; gi_at_call 9; refine (callsIn_wide.2 (fill_any _ _ n cp cq c ks _ H2.out.x H2.out.z (by omega) HA.out HK.out)).mono ?_; rintro e w3 ⟨v3, rs3, rfl, hg, hrs, hb⟩; obtain ⟨g, hgi⟩ : ∃ g, rs3[i]? = some (g, boxF X y) := row_of (by rw [hrs]; exact HBX.out); obtain ⟨G, cO, rfl, hsp, hrow, hSg, hgs⟩ := hg.at hgi; rw [boxF_len, HN.out] at hsp; obtain ⟨hc1, hc2⟩ := hrow kk q HQK.out; have h4 : Below w3.heap.size w3 (w3.alloc (.cells #[.int .i64 0, .int .i64 0, .int .i64 0, .int .i64 0, .slice (some ⟨G, 0, none⟩) n cO] 29)) := (Below.refl _ _).alloc (Nat.le_refl _) _; have hg4 := hg.go h4; obtain ⟨O', cO', hO, hsl⟩ := hg4.sl (by omega); cases hO; rw [hrs] at hsl; have hsb : Shb w3.heap.size (some ⟨G, 0, none⟩) n cO (fillM c ks) (w3.alloc (.cells #[.int .i64 0, .int .i64 0, .int .i64 0, .int .i64 0, .slice (some ⟨G, 0, none⟩) n cO] 29)) := ⟨by simp [go_sem], by simp [go_sem], by simp [go_sem], by simp [go_sem], by simp [go_sem], hsl⟩; have e1 := (Keeps.of_below h4 []).cell (by simp) hsp; have e2 := (Keeps.of_below h4 []).cell (by simp) hc1; have e3 := (h4.frozen (p := ⟨g, kk, none⟩) hgs).trans hc2; obtain ⟨W4, hW4⟩ : ∃ W4 : World, w3.alloc (.cells #[.int .i64 0, .int .i64 0, .int .i64 0, .int .i64 0, .slice (some ⟨G, 0, none⟩) n cO] 29) = W4 := ⟨_, rfl⟩; rw [hW4] at hsb e1 e2 e3 h4 hg4; have hb4 := hb.trans (h4.mono hb.size); obtain ⟨z0, z1, z2, z3, z4, -⟩ := hsb; have H5 := Lib.hid (H2.out.go hb4); clear hb hg hrs hsl h4 hg4 hb4 hgi hrow hsp hc1 hc2)
      | (have g := H1.out; clear g; refine ⟨trivial, ?_⟩; gi_at_call 8; refine (callsIn_wide.2 (right_any _ _ n cp n cq c ks _ H1.out.x H1.out.z)).mono ?_; rintro e w2 ⟨rfl, hb⟩; rw [HR.out]; have H2 := Lib.hid (H1.out.go hb); clear hb)
      | (refine ⟨trivial, ?_⟩; gi_at_call 7; refine (callsIn_wide.2 (sane_any _)).mono ?_; rintro e w1 ⟨rfl, hb⟩; have H1 := Lib.hid (H0.out.go hb); clear hb)
      | (refine ⟨trivial, ?_⟩))
    go_ret
    exact ⟨rfl, H5.out.lo⟩
  · have hqb2 : (q == b) = false := by simpa using hqb
    obtain ⟨q1, q2, q3⟩ := HLW.out (by rw [HQK.out]; intro e; exact hqb (Option.some.inj e))
    generalize errOne X y kk b = E at *
    obtain ⟨m', x'⟩ := E
    simp only at q1 q2 q3
    have HQ1 := Lib.hid q1
    have HQ2 := Lib.hid q2
    have HQ3 := Lib.hid q3
    clear q1 q2 q3
    gi_wp2_with (first
      | (have g := H6.out; clear g; refine ⟨trivial, ?_⟩; gi_at_call 11; refine (callsIn_wide.2 (agrees_any _ n cp c 0 0 0 0 (some ⟨G, 0, none⟩) n cO ((fillM c ks).set i ((boxF X y).set kk b)) _ n cq ks _ H6.out.x HB6.out.y H6.out.z)).mono ?_; rintro e w7 ⟨rfl, hb⟩; rw [HQ2.out]; have HT1 := Lib.hid (HS1.out.keep (Keeps.of_below hb [])); have HT2 := Lib.hid (HS2.out.keep (Keeps.of_below hb [])); have H7 := Lib.hid (H6.out.go hb); clear hb y0 y1 y2 y3 y4)
      | (have g := H5.out; clear g; refine ⟨trivial, ?_⟩; gi_at_call 10; refine (callsIn_wide.2 (read_any _ n cp c 0 0 0 0 (some ⟨G, 0, none⟩) n cO ((fillM c ks).set i ((boxF X y).set kk b)) _ H5.out.x HB5.out.y)).mono ?_; rintro e w6 ⟨A1, n1, cp1, A2, n2, cp2, rfl, hs, hb⟩; obtain ⟨hs1, hs2⟩ := hs [] (by simp); rw [HQ1.out] at hs1 hs2 ⊢; obtain rfl : n = n1 := (show ks.length = n from HL2.out).symm.trans ((List.length_set ..).symm.trans hs1.len); obtain rfl : n = n2 := (show ks.length = n from HL2.out).symm.trans (((List.length_map _).symm.trans (List.length_set ..).symm).trans hs2.len); have HS1 := Lib.hid hs1; have HS2 := Lib.hid hs2; have H6 := Lib.hid (H5.out.go hb); have HB6 := Lib.hid (HB5.out.go hb); clear hb hs hs1 hs2 y0 y1 y2 y3 y4; obtain ⟨y0, y1, y2, y3, y4, -⟩ := HB6.out)
      | (have g := H2.out; clear g; refine ⟨trivial, ?_⟩; gi_at_call 9; refine (callsIn_wide.2 (fill_any _ _ n cp cq c ks _ H2.out.x H2.out.z (by omega) HA.out HK.out)).mono ?_; rintro e w3 ⟨v3, rs3, rfl, hg, hrs, hb⟩; obtain ⟨g, hgi⟩ : ∃ g, rs3[i]? = some (g, boxF X y) := row_of (by rw [hrs]; exact HBX.out); obtain ⟨G, cO, rfl, hsp, hrow, hSg, hgs⟩ := hg.at hgi; rw [boxF_len, HN.out] at hsp; obtain ⟨hc1, hc2⟩ := hrow kk q HQK.out; have h4 : Below w3.heap.size w3 (w3.alloc (.cells #[.int .i64 0, .int .i64 0, .int .i64 0, .int .i64 0, .slice (some ⟨G, 0, none⟩) n cO] 29)) := (Below.refl _ _).alloc (Nat.le_refl _) _; have hg4 := hg.go h4; obtain ⟨O', cO', hO, hsl⟩ := hg4.sl (by omega); cases hO; rw [hrs] at hsl; have hsb : Shb w3.heap.size (some ⟨G, 0, none⟩) n cO (fillM c ks) (w3.alloc (.cells #[.int .i64 0, .int .i64 0, .int .i64 0, .int .i64 0, .slice (some ⟨G, 0, none⟩) n cO] 29)) := ⟨by simp [go_sem], by simp [go_sem], by simp [go_sem], by simp [go_sem], by simp [go_sem], hsl⟩; have e1 := (Keeps.of_below h4 []).cell (by simp) hsp; have e2 := (Keeps.of_below h4 []).cell (by simp) hc1; have e3 := (h4.frozen (p := ⟨g, kk, none⟩) hgs).trans hc2; obtain ⟨W4, hW4⟩ : ∃ W4 : World, w3.alloc (.cells #[.int .i64 0, .int .i64 0, .int .i64 0, .int .i64 0, .slice (some ⟨G, 0, none⟩) n cO] 29) = W4 := ⟨_, rfl⟩; rw [hW4] at hsb e1 e2 e3 h4 hg4; have hb4 := hb.trans (h4.mono hb.size); obtain ⟨z0, z1, z2, z3, z4, -⟩ := hsb; obtain ⟨W5, hW5⟩ : ∃ W5 : World, W4.setCell ⟨g, kk, none⟩ (.int .i64 b) = W5 := ⟨_, rfl⟩; have hg5 := hg4.set hgi kk b (by unfold i64; omega); rw [hW5] at hg5; obtain ⟨O', cO', hO, hsl5⟩ := hg5.sl (by omega); cases hO; rw [List.map_set, hrs] at hsl5; have ne : w3.heap.size ≠ g := (by omega); have zk : ∀ (o : Nat) (u : Value), W4.cell? ⟨w3.heap.size, o, none⟩ = some u → W5.cell? ⟨w3.heap.size, o, none⟩ = some u := (by intro o u h; rw [← hW5, World.cell?_of_block (Below.heap_setCell _ _ _ _ ne)]; exact h); have hsb5 : Shb w3.heap.size (some ⟨G, 0, none⟩) n cO ((fillM c ks).set i ((boxF X y).set kk b)) W5 := ⟨zk _ _ z0, zk _ _ z1, zk _ _ z2, zk _ _ z3, zk _ _ z4, hsl5⟩; have H5 := Lib.hid (H2.out.go (show Below w2.heap.size w2 W5 from (by rw [← hW5]; exact hb4.setCell (p := ⟨g, kk, none⟩) hSg _))); have HB5 := Lib.hid hsb5; obtain ⟨y0, y1, y2, y3, y4, -⟩ := hsb5; clear hb hg hrs hsl h4 hg4 hb4 hgi hrow hsp hc1 hc2 hg5 hsl5 ne zk)
      | (have g := H1.out; clear g; refine ⟨trivial, ?_⟩; gi_at_call 8; refine (callsIn_wide.2 (right_any _ _ n cp n cq c ks _ H1.out.x H1.out.z)).mono ?_; rintro e w2 ⟨rfl, hb⟩; rw [HR.out]; have H2 := Lib.hid (H1.out.go hb); clear hb)
      | (refine ⟨trivial, ?_⟩; gi_at_call 7; refine (callsIn_wide.2 (sane_any _)).mono ?_; rintro e w1 ⟨rfl, hb⟩; have H1 := Lib.hid (H0.out.go hb); clear hb)
      | (refine ⟨trivial, ?_⟩))
    gi_loopw [110] (fun j wr => ∃ p : Nat, p ≤ n ∧ j = .int .i64 p ∧ Below w7.heap.size w7 wr) (fun j _ => n - (intOf j).toNat)
    case atStart => exact ⟨0, by omega, rfl, Below.refl _ _⟩
    case round =>
      obtain ⟨p, hp, rfl, hb⟩ := hrel
      have HV1 := Lib.hid (HT1.out.keep (Keeps.of_below hb []))
      have HV2 := Lib.hid (HT2.out.keep (Keeps.of_below hb []))
      have H8 := Lib.hid (H7.out.go hb)
      by_cases hlt : p < n
      · obtain ⟨b1, o1, u, rfl, hc1, -, -, hu⟩ := HV1.out.intd hlt
        obtain ⟨b2, o2, v, hC2, hc2, -, -, hv⟩ := H8.out.z.intd hlt
        cases hC2
        have d1 := stays_drew hc1
        have d2 := stays_drew hc2
        by_cases hpi : p = i
        · subst hpi
          clear hu hv
          gi_wp2
          refine wpIn_region_all [] (List.range 14) (by kernel_rfl) (by kernel_rfl) ?_
          simp only [show List.range 14 = [0,1,2,3,4,5,6,7,8,9,10,11,12,13] from rfl]
          repeat (refine ord_step fun K hK => ?_; (first | (refine ordStep_read rfl rfl ?_ ?_; (focus (first | exact wanted_none rfl | (refine wanted_yes rfl ?_; (focus (simp [yielded]; done))))); apply Exists.intro; refine ⟨fun w' hk Z hZ => ?_, hK _ _ ?_⟩; (focus (simp only [execOp]; (repeat conv in Act.eval _ _ => whnf); (try go_simp); exact hZ))) | (refine ordStep_skip rfl rfl ?_ (hK _ _ ?_); (focus (first | (refine wanted_no rfl ?_; (focus (simp [yielded]; done))) | (refine wanted_un rfl ?_; (focus (simp [yielded]; done)))))) | (refine ordStep_callskip rfl rfl ?_ (fun _ => trivial) (hK _ _ ?_); (focus (first | (refine wanted_no rfl ?_; (focus (simp [yielded]; done))) | (refine wanted_un rfl ?_; (focus (simp [yielded]; done))))))); clear hK K; (try simp only [Act.put, List.setIfInBounds_toArray, List.set_cons_succ, List.set_cons_zero]))
          refine ord_nil ?_; (try simp only [Act.put, List.setIfInBounds_toArray, List.set_cons_succ, List.set_cons_zero])
          gi_wp2
          go_roundw
          case rel => exact ⟨p + 1, by omega, by go_num, hb.drew⟩
          case measure => simp [intOf]; omega
        · have hpi2 : ((p : Int) != (i : Int)) = true := by simp; omega
          have huv : u = v := by
            rw [List.getElem?_set_ne (by omega), hv] at hu
            exact (Option.some.inj hu).symm
          subst huv
          clear hu hv
          gi_wp2
          refine wpIn_region_all [] (List.range 14) (by kernel_rfl) (by kernel_rfl) ?_
          simp only [show List.range 14 = [0,1,2,3,4,5,6,7,8,9,10,11,12,13] from rfl]
          repeat (refine ord_step fun K hK => ?_; (first | (refine ordStep_read rfl rfl ?_ ?_; (focus (first | exact wanted_none rfl | (refine wanted_yes rfl ?_; (focus (simp [yielded]; done))))); apply Exists.intro; refine ⟨fun w' hk Z hZ => ?_, hK _ _ ?_⟩; (focus (simp only [execOp]; (repeat conv in Act.eval _ _ => whnf); (try go_simp); exact hZ))) | (refine ordStep_skip rfl rfl ?_ (hK _ _ ?_); (focus (first | (refine wanted_no rfl ?_; (focus (simp [yielded]; done))) | (refine wanted_un rfl ?_; (focus (simp [yielded]; done)))))) | (refine ordStep_callskip rfl rfl ?_ (fun _ => trivial) (hK _ _ ?_); (focus (first | (refine wanted_no rfl ?_; (focus (simp [yielded]; done))) | (refine wanted_un rfl ?_; (focus (simp [yielded]; done))))))); clear hK K; (try simp only [Act.put, List.setIfInBounds_toArray, List.set_cons_succ, List.set_cons_zero]))
          refine ord_nil ?_; (try simp only [Act.put, List.setIfInBounds_toArray, List.set_cons_succ, List.set_cons_zero])
          gi_wp2
          go_roundw
          case rel => exact ⟨p + 1, by omega, by go_num, hb.drew⟩
          case measure => simp [intOf]; omega
      · obtain ⟨b1, o1, u, rfl, hc1, -, -, hu⟩ := HV1.out.intd hi
        obtain ⟨b4, o4, x2, rfl, hc4, -, -, hx2⟩ := HV2.out.intd hi
        obtain ⟨b2, o2, v, hC2, hc2, -, -, hv⟩ := H8.out.z.intd hi
        cases hC2
        rw [List.getElem?_set_self (by rw [HL2.out]; exact hi)] at hu
        rw [List.getElem?_set_self (by rw [List.length_map, HL2.out]; exact hi)] at hx2
        obtain rfl : m' = u := Option.some.inj hu
        obtain rfl : x' = x2 := Option.some.inj hx2
        obtain rfl : y = v := by rw [HKI.out] at hv; exact Option.some.inj hv
        obtain ⟨bA2, oA2, s2, lo2, hh2, st2, how2, tr2, rv2, hA2, hci2, -, -, c0, c1, c2, c3, c4, c5, c6⟩ := H8.out.x.critd hi
        cases hA2
        rw [HCI.out] at hci2
        have hX2 := HXX.out.trans (Option.some.inj hci2)
        injection hX2 with j0 j1 j2 j3 j4 j5 j6
        subst j1 j3
        have hq3 := HQ3.out
        rw [← HXX.out] at hq3
        simp only at hq3
        have HQ4 := Lib.hid hq3
        clear hu hx2 hv hci2 hq3 j0 j2 j4 j5 j6 c0 c2 c4 c5 c6
        have d1 := stays_drew hc1
        have d4 := stays_drew hc4
        have d5 := stays_drew c1
        have d6 := stays_drew c3
        by_cases hyb : y = -1 ∧ b = 1
        · have hq3 := HQ4.out
          rw [if_pos hyb] at hq3
          obtain ⟨g1, g2⟩ := hq3
          obtain ⟨g3, g4⟩ := hyb
          subst g1; subst g2; subst g3; subst g4
          have k3 : IntKind.i64.wrap ((kk : Int) * st) = (kk : Int) * st := by rw [IntKind.wrap_i64]; omega
          have k4 : IntKind.i64.wrap (lo + (kk : Int) * st) = lo + (kk : Int) * st := by rw [IntKind.wrap_i64]; omega
          gi_wp2
          refine wpIn_region_all [] (List.range 26) (by kernel_rfl) (by kernel_rfl) ?_
          simp only [show List.range 26 = [0,1,2,3,4,5,6,7,8,9,10,11,12,13,14,15,16,17,18,19,20,21,22,23,24,25] from rfl]
          repeat (refine ord_step fun K hK => ?_; (first | (refine ordStep_read rfl rfl ?_ ?_; (focus (first | exact wanted_none rfl | (refine wanted_yes rfl ?_; (focus (simp [yielded]; done))))); apply Exists.intro; refine ⟨fun w' hk Z hZ => ?_, hK _ _ ?_⟩; (focus (simp only [execOp]; (repeat conv in Act.eval _ _ => whnf); (try go_simp); exact hZ))) | (refine ordStep_skip rfl rfl ?_ (hK _ _ ?_); (focus (first | (refine wanted_no rfl ?_; (focus (simp [yielded]; done))) | (refine wanted_un rfl ?_; (focus (simp [yielded]; done)))))) | (refine ordStep_callskip rfl rfl ?_ (fun _ => trivial) (hK _ _ ?_); (focus (first | (refine wanted_no rfl ?_; (focus (simp [yielded]; done))) | (refine wanted_un rfl ?_; (focus (simp [yielded]; done))))))); clear hK K; (try simp only [Act.put, List.setIfInBounds_toArray, List.set_cons_succ, List.set_cons_zero]))
          refine ord_nil ?_; (try simp only [Act.put, List.setIfInBounds_toArray, List.set_cons_succ, List.set_cons_zero])
          gi_wp2
          go_ret
          exact ⟨rfl, (H8.out.go (Below.refl _ _).drew).lo⟩
        · have hq3 := HQ4.out
          rw [if_neg hyb] at hq3
          obtain ⟨g1, g2⟩ := hq3
          subst g2
          have g3 : (x' != 0) = true := by simpa using g1
          by_cases hy : y = -1
          · subst hy
            have g4 : (b == 1) = false := by simpa using hyb
            gi_wp2
            go_ret
            exact ⟨rfl, H8.out.lo⟩
          · have g4 : (y == -1) = false := by simpa using hy
            gi_wp2
            go_ret
            exact ⟨rfl, H8.out.lo⟩
end Go.Proofs.Ythbbefkmnahnlaa
