/- Lemmas and walks (Nat10). No statement is proved here. -/
import Derived.Test.YtboapndkopabiaaGreatM09
set_option linter.unusedVariables false
set_option linter.unusedSimpArgs false
namespace Go.Proofs.YtboapndkopabiaaGreat
open Go.RowKit Go.Shelf
attribute [local go_sem] Oper.semAt_some
theorem Row.own {w : World} {b base k n : Nat} {l : List Int} (h : Row w b l) (hb : base ≤ b) (hk : k ≤ n) (hl : l.length = n) (hn : n ≤ 1000000) : w.ownsRow base 3 1 (.slice (some ⟨b, 0, none⟩) k n) k ((l.take k).map (Value.int .i64)) := by
 refine ⟨by simp [hl]; omega, .inr ⟨b, n, _, rfl, hb, h, hk, by simp [maxLen]; omega, by simp [hl], ?_⟩⟩
 rw [List.map_take, Nat.mul_one]
structure LS (w W4 W : World) (g qb cc n : Nat) (T : List Int) (Q : List Nat) : Prop where
 u : Rw W g (n + 1) cc T
 q : Row W qb (ints Q)
 kp : Keeps [g, qb] W4 W
 bl : Below w.heap.size w W
theorem LS.drew {w W4 W : World} {g qb cc n : Nat} {T : List Int} {Q : List Nat} (h : LS w W4 W g qb cc n T Q) : LS w W4 W.drew g qb cc n T Q := ⟨h.u, h.q, h.kp.drew, h.bl.drew⟩
theorem LS.putU {w W4 W : World} {g qb cc n : Nat} {T : List Int} {Q : List Nat} (h : LS w W4 W g qb cc n T Q) (hne : qb ≠ g) (hg : w.heap.size ≤ g) (j : Nat) (x : Int) : LS w W4 (W.setCell ⟨g, j, none⟩ (.int .i64 x)) g qb cc n (T.set j x) Q :=
 ⟨h.u.put j x, h.q.put_other hne j _, h.kp.setCell (p := ⟨g, j, none⟩) (.inl (by simp)) _, h.bl.setCell (p := ⟨g, j, none⟩) hg _⟩
theorem LS.putQ {w W4 W : World} {g qb cc n : Nat} {T : List Int} {Q : List Nat} (h : LS w W4 W g qb cc n T Q) (hne : g ≠ qb) (hg : w.heap.size ≤ qb) (j : Nat) (x : Nat) : LS w W4 (W.setCell ⟨qb, j, none⟩ (.int .i64 (x : Int))) g qb cc n T (Q.set j x) :=
 ⟨h.u.put_other hne j _, by have := h.q.put j (x : Int); rwa [ints_set] at this, h.kp.setCell (p := ⟨qb, j, none⟩) (.inl (by simp)) _, h.bl.setCell (p := ⟨qb, j, none⟩) hg _⟩
set_option maxRecDepth 100000 in
set_option maxHeartbeats 8000000 in
theorem long_any {M : List Nat} {A B : Option Addr} {n c k d x y : Nat} {w : World} (hM : Bel M w) (hx : Sl Int w M A n c (ints (dig x))) (hy : Sl Int w M B k d (ints (dig y))) (hn : n ≤ 4990) (hk2 : 2 ≤ k) (hkn : k ≤ n) :
 Calls Tryz.prog 126 #[.slice A n c, .slice B k d] w fun e w' => ∃ O q cO O2 q2 cO2, e = .returned (.tuple #[.slice O q cO, .slice O2 q2 cO2]) ∧ Sl Int w' M O q cO (ints (dig (x / y))) ∧ Sl Int w' M O2 q2 cO2 (ints (dig (x % y))) ∧ Below w.heap.size w w' := by
 refine wid ?_
 have H := Hd (hx.less (M' := []) (by simp))
 have G := Hd (hy.less (M' := []) (by simp))
 have HM := Hd hM
 have l1 := hx.dlen
 have l2 := hy.dlen
 have hsb := hy.small
 obtain ⟨b0, o0, dt, rfl, hct, hdt, hdl, -⟩ := hy.digd (good_dig y) (show k - 1 < k by omega)
 have ht0 : 0 < dt := by
  have h := topped_dig y; rw [topped_last, List.getLast?_eq_getElem?, l2, hdl] at h
  simp at h; omega
 obtain ⟨s, hs29, hse, hsB, hL1, hL2⟩ := lz_facts ht0 hdt
 have lv := moved_len l2 (by omega) hdl hsB
 obtain ⟨lu1, lu2⟩ := moved_len2 (s := s) l1 hs29
 have ek : ((k : Int) - 1) = ((k - 1 : Nat) : Int) := by omega
 have kw : IntKind.i64.wrap ((k : Int) - 1) = ((k - 1 : Nat) : Int) := by rw [IntKind.wrap_i64]; omega
 have kd : IntKind.u64.wrap (dt : Int) = (dt : Int) := by simp [IntKind.wrap, IntKind.bits, IntKind.signed]; omega
 have P := Hd7 l1 l2 lv lu1 lu2 hse hsB
 clear hx hy hM l1 l2 lv lu1 lu2 hdl hse hsB
 refine ent Tryz.func126 rfl Tryz.ntmps126 ?_
 gi_wp2_with (first
  | (refine Cl 135 (lib_LeadingZeros64 (dt : Int) _ (by omega) (by omega)) ?_; rintro e w ⟨rfl, rfl⟩; rw [Int.toNat_natCast])
  | (refine ⟨trivial, ?_⟩; gi_at_call 136; have g := HV.out; clear g; refine Cn (moved_any (A := A) (c := c) (x := x) (H.out.keep (Keeps.of_below HV.out.2.2.2.2.2.2 [])) (by omega) hs29) ?_; rintro e w2 ⟨ub, ku, LU, rfl, ur, ub1, uk, ul, ug, ut, uB⟩
     have HU := Hd7 ur ub1 uk ul ug ut uB; have hown := ur.own (base := w1.heap.size) ub1 uk (by rw [ints_len]; exact ul) (by omega); rw [ints_take, ut] at hown; obtain ⟨g, cc, W3, a1, a2, a3, a4, a5, a6⟩ := snoc_two hown uB.size (by omega); have HAP := Hd a1; have HA := Hd5 a2 a3 a4 a5 a6
     have hku : ku = (dig (x * 2 ^ s)).length := by rw [← ut, List.length_take]; omega
     have hku1 : n ≤ ku := by rw [hku]; exact P.out.2.2.2.1
     have hku2 : ku ≤ n + 1 := uk; have sl1 := slice_to (k := n + 1) Tryz.underlying124 (sz := 1) (fun w => by kernel_rfl) (some ⟨g, 0, none⟩) (n := ku + 2) (cp := cc) (by omega) a6; rw [show ((n + 1 : Nat) : Int) = (n : Int) + 1 from by omega] at sl1; have hmk := mk_ints (t := 124) Tryz.underlying124 (n - k + 1) (by omega)
     obtain ⟨W4, hW4⟩ : ∃ W4 : World, W3.alloc (.cells ((List.replicate (n - k + 1) (0 : Int)).map (Value.int .i64)).toArray 3) = W4 := ⟨_, rfl⟩
     replace hmk := hmk W3; rw [hW4, show ((n - k + 1 : Nat) : Int) = (n : Int) - (k : Int) + 1 from by omega] at hmk; have H4 := Hd hW4
     clear ur ub1 uk ul ug ut uB hown a1 a2 a3 a4 a5 hku hW4)
  | (refine ⟨trivial, ?_⟩; gi_at_call 136; rw [P.out.2.2.2.2.2.1]; refine Cn (moved_any (A := some ⟨b0, o0, none⟩) (c := d) (x := y) G.out (by omega) hs29) ?_; rintro e w1 ⟨vb, kk, LV, rfl, vr, vb1, vk, vl, vg, vt, vB⟩
     have hkk : k = kk := by
      have h := congrArg List.length vt; rw [List.length_take, P.out.2.2.1] at h; omega
     subst hkk; have HV := Hd7 vr vb1 vk vl vg vt vB
     clear vr vb1 vk vl vg vt vB)
  | (gi_at_builtin; refine wpListIn_plain rfl fun K hK' => ?_; refine wpIn_append _ _ _ rfl rfl rfl HAP.out (hK' _ _ ?_); clear hK' K)
  | fail)
 have hU := HU.out
 have hV := HV.out
 obtain ⟨a2, a3, a4, a5⟩ := HA.out
 have hvb : vb < w1.heap.size := hV.1.lt
 have hws : w.heap.size ≤ w1.heap.size := hV.2.2.2.2.2.2.size
 have hub : w1.heap.size ≤ ub := hU.2.1
 have hw12 : w1.heap.size ≤ w2.heap.size := hU.2.2.2.2.2.2.size
 have hgb : w1.heap.size ≤ g := by
  rcases a5 with e | e
  · have : ub = g := Option.some.inj e
    omega
  · omega
 have hg3 : g < W3.heap.size := (World.ownsRow.lt a2 g rfl).2
 have hw3 := a3.size
 have bW4 : Below w1.heap.size w1 W4 := (hU.2.2.2.2.2.2.trans (a3.mono (by omega) )).trans (by rw [← H4.out]; exact (Below.refl _ _).alloc (by omega) _)
 have bw4 : Below w.heap.size w W4 := hV.2.2.2.2.2.2.trans (bW4.mono hws)
 obtain ⟨T, hT⟩ : ∃ T, T = (dig (x * 2 ^ s) ++ [0, 0]).take (n + 1) := ⟨_, rfl⟩
 have hkl : (dig (x * 2 ^ s)).length = ku := by rw [← hU.2.2.2.2.2.1, List.length_take, hU.2.2.2.1]; omega
 have hTl : T.length = n + 1 := by rw [hT, List.length_take, List.length_append, hkl]; simp; omega
 have hgd : Good (dig (x * 2 ^ s) ++ [0, 0]) := fun q hq => by
  rcases List.mem_append.1 hq with hq | hq
  · exact good_dig _ q hq
  · simp at hq; rw [hq]; exact BB_pos
 have hTg : Good T := by rw [hT]; exact good_take hgd _
 have hTv : val (T.take (n + 1)) = x * 2 ^ s := by
  rw [List.take_of_length_le (by omega), hT]; have e := val_take_drop (dig (x * 2 ^ s) ++ [0, 0]) (n + 1) (by rw [List.length_append, hkl]; simp; omega); rw [val_append, val_dig] at e; have z1 : val [0, 0] = 0 := rfl
  have z2 : val ((dig (x * 2 ^ s) ++ [0, 0]).drop (n + 1)) = 0 := by
   rw [List.drop_append, List.drop_of_length_le (by omega), List.nil_append, hkl]
   rcases (show n + 1 - ku = 0 ∨ n + 1 - ku = 1 by omega) with e | e
   · rw [e]; rfl
   · rw [e]; rfl
  rw [z1, z2] at e; omega
 have hru : Rw W4 g (n + 1) cc (ints T) := by
  have h := Rw.cut (g := g) a2 rfl (m := n + 1) (by omega); rw [show ints (dig (x * 2 ^ s)) ++ [0, 0] = ints (dig (x * 2 ^ s) ++ [0, 0]) by simp [ints], ints_take, ← hT] at h; exact h.go (by rw [← H4.out]; exact (Below.refl _ _).alloc (Nat.le_refl _) _)
 have hrq : Row W4 W3.heap.size (ints (List.replicate (n - k + 1) 0)) := by rw [← H4.out, ← ints_zeros]; exact Row.new _ W3
 have hvs : Sl Int W4 [g, W3.heap.size] (some ⟨vb, 0, none⟩) k (k + 1) (ints (dig (y * 2 ^ s))) := by
  have h := (hV.1.go bW4 hvb).sl (M := [g, W3.heap.size]) (by simp; omega) (n := k + 1) (by rw [ints_len]; exact hV.2.2.2.1) (by omega) (ints_i64 hV.2.2.2.2.1); have h2 := h.cutTo (k := k) (by omega)
  rwa [ints_take, hV.2.2.2.2.2.1] at h2
 have hli := LI.start (s := s) (T := T) P.out.1 P.out.2.1 hkn (by omega) hTv hTg (by omega)
 have hY0 : 0 < y * 2 ^ s := by
  rcases Nat.eq_zero_or_pos (y * 2 ^ s) with e | e
  · have := P.out.2.2.1
    rw [e, dig_zero] at this
    simp at this; omega
  · exact e
 have V := Hd2 hvs hY0
 have hwg : w.heap.size ≤ g := by omega
 have hwq : w.heap.size ≤ W3.heap.size := by omega
 have hgq : g ≠ W3.heap.size := by omega
 have hsh : T = T.take (n - k + 1) ++ ((T.drop (n - k + 1)).take k ++ T.drop (n + 1)) := by
  have e1 : T.take (n + 1) = T.take (n - k + 1) ++ (T.drop (n - k + 1)).take k := by
   conv => lhs; rw [show n + 1 = (n - k + 1) + k by omega]
   rw [List.take_add]
  rw [← List.append_assoc, ← e1, List.take_append_drop]
 rw [hsh] at hru
 have S0 := Hd2 hli (LS.mk hru hrq (Keeps.refl _ _) bw4)
 clear hru hrq hvs hli hY0 hTv hTg hgd hTl hkl hT hsh bw4 a2 a3 a4 a5 hU hV HU HV HA H4 HAP sl1 hmk hub hvb bW4 hct hL1 hL2 ht0 hdt kd
 gi_wp2
 gi_loopw [10] (fun v wr => ∃ (j : Nat) (lo rs rest Q : List Nat), j ≤ n - k + 1 ∧ v = .int .i64 ((j : Int) - 1) ∧ Hid (LI (x * 2 ^ s) (y * 2 ^ s) (n + 1) k (n - k + 1) j lo rs rest Q) ∧ Hid (LS w W4 wr g W3.heap.size cc n (ints (lo ++ (rs ++ rest))) Q)) (fun v _ => (intOf v + 1).toNat)
 case atStart => exact ⟨n - k + 1, _, _, _, _, Nat.le_refl _, by go_num, S0.out.1, S0.out.2⟩
 case round =>
  obtain ⟨j, lo, rs, rest, Q, hj, rfl, hI, hS⟩ := hrel
  rcases Nat.eq_zero_or_pos j with rfl | hpos
  · obtain ⟨hq1, hr1, hr2⟩ : val Q = x / y ∧ val rs = (x % y) * 2 ^ s ∧ val ((rs ++ rest).take (n + 1)) = (x % y) * 2 ^ s := by
     have h := hI.out; have h0 : lo = [] := List.length_eq_zero_iff.1 h.lol; subst h0; exact h.done (by omega)
    have h0 : lo = [] := List.length_eq_zero_iff.1 hI.out.lol; subst h0; have hS1 := hS.out; rw [List.nil_append] at hS1
    have hTl : (rs ++ rest).length = n + 1 := by have := hS1.u.len; rwa [ints_len] at this
    rw [List.take_of_length_le (by rw [hTl]; exact Nat.le_refl _)] at hr2
    have hTg : Good (rs ++ rest) := fun q hq => by
     rcases List.mem_append.1 hq with hq | hq
     · exact hI.out.grs q hq
     · exact hI.out.gz q hq
    have hgM : g ∉ M := fun e => by have := HM.out _ e; omega
    have hqM : W3.heap.size ∉ M := fun e => by have := HM.out _ e; omega
    have su : Sl Int wr.drew M (some ⟨g, 0, none⟩) (n + 1) cc (ints (rs ++ rest)) := hS1.drew.u.sl hgM (by omega) (ints_i64 hTg); have hgQ := hI.out.gq; have hlQ := hI.out.ql; have hp : 0 < 2 ^ s := Nat.pow_pos (by decide); have hp2 : 2 ^ s ≤ 1073741824 := two_BB hs29
    have kk1 : IntKind.i64.wrap (2 ^ s) = ((2 ^ s : Nat) : Int) := by
     have e : (2 : Int) ^ s = ((2 ^ s : Nat) : Int) := by simp
     rw [e, IntKind.wrap_i64]; omega
    have hbel : Bel M wr.drew := HM.out.le hS1.bl.size; have E := Hd (And.intro su (And.intro hTg (And.intro hr2 (And.intro hgQ (And.intro hlQ (And.intro hq1 (And.intro hS1.drew hbel))))))); clear hq1 hr1 hr2 hS1 hTl hTg hgM su hgQ hlQ hI hS hbel; gi_wp2; refine wpIn_region_all [] [0,2,3,1,4,5,6,7,8] (by kernel_rfl) (by kernel_rfl) ?_
    repeat ((first | refine ord_rd ?_ | refine ord_sk ?_ | refine ord_cs ?_))
    refine ord_step fun K hK => ordStep_call rfl rfl wy fun K' hK' => ?_; gi_wp2
    refine Cm (trimN_any _ _ _ (rs ++ rest) wr.drew E.out.1 E.out.2.1) ?_; rintro e w5 ⟨q, rfl, hq, ht, hb5⟩; have hs5 := (E.out.1.keep (Keeps.of_below hb5 M)).cutTo hq; rw [ints_take, ht, E.out.2.2.1] at hs5; have H5 := Hd2 hs5 hb5; clear hs5 ht; refine hK' _ _ ⟨?_, hK _ _ ?_⟩; clear hK' K' hK K
    · exact Keeps.of_below hb5 []
    refine lit ?_
    repeat ((first | refine ord_rd ?_ | refine ord_sk ?_ | refine ord_cs ?_))
    refine ord_step fun K hK => ordStep_call rfl rfl wy fun K' hK' => ?_; gi_wp2
    refine Cm (short_any (x := (x % y) * 2 ^ s) (d := 2 ^ s) (E.out.2.2.2.2.2.2.2.le hb5.size) H5.out.1 (by omega) hp hp2) ?_; rintro e w6 ⟨O2, q2, c2, rfl, hs6, hb6⟩; rw [Nat.mul_div_cancel _ hp] at hs6; have H6 := Hd2 hs6 (hb5.trans (hb6.mono hb5.size)); clear hs6; refine hK' _ _ ⟨?_, hK _ _ ?_⟩; clear hK' K' hK K
    · exact Keeps.of_below hb6 []
    refine lit ?_
    repeat ((first | refine ord_rd ?_ | refine ord_sk ?_ | refine ord_cs ?_))
    refine ord_nil ?_; refine lit ?_; have hb := H6.out.2; have sq : Sl Int w6 M (some ⟨W3.heap.size, 0, none⟩) (n - k + 1) (n - k + 1) (ints Q) := (E.out.2.2.2.2.2.2.1.q.go hb E.out.2.2.2.2.2.2.1.q.lt).sl hqM (by rw [ints_len]; exact E.out.2.2.2.2.1) (by omega) (ints_i64 E.out.2.2.2.1); have SQ := Hd sq; clear sq hb hb5 hb6
    gi_wp2_with (refine Cl 125 (trimN_any _ _ _ Q _ SQ.out E.out.2.2.2.1) ?_; rintro e w7 ⟨q3, rfl, hq3, ht3, hb7⟩; have H7 := Hd3 hq3 ht3 hb7; clear hq3 ht3 hb7)
    have hs7 := (SQ.out.keep (Keeps.of_below H7.out.2.2 M)).cutTo H7.out.1; rw [ints_take, H7.out.2.1, E.out.2.2.2.2.2.1] at hs7; go_ret2; exact ⟨_, q3, _, O2, q2, c2, rfl, hs7, H6.out.1.keep (Keeps.of_below H7.out.2.2 M), E.out.2.2.2.2.2.2.1.bl.trans ((H6.out.2.trans (H7.out.2.2.mono H6.out.2.size)).mono E.out.2.2.2.2.2.2.1.bl.size)⟩
  · obtain ⟨i, rfl⟩ : ∃ i, j = i + 1 := ⟨j - 1, by omega⟩
    have ei : ((i + 1 : Nat) : Int) - 1 = (i : Int) := by omega
    rw [ei]; obtain ⟨lo', dd, ws, t, hlo, hlo1, hdr, hwl, hwg2, htB, hlg, hdB⟩ := hI.out.window; have hS1 := hS.out; rw [LI.shape (rest := rest) hlo hdr, ← RR_nat] at hS1
    obtain ⟨u1, hu1⟩ : ∃ u1, ws[k - 1]? = some u1 := ⟨_, List.getElem?_eq_getElem (by omega)⟩
    obtain ⟨u2, hu2⟩ : ∃ u2, ws[k - 2]? = some u2 := ⟨_, List.getElem?_eq_getElem (by omega)⟩
    have hu1B := BB_le (hwg2 u1 (List.mem_of_getElem? hu1)); have hu2B := BB_le (hwg2 u2 (List.mem_of_getElem? hu2)); have htB1 := BB_le htB; obtain ⟨bv, ov, v1, ebv, hv1, hv1B, hv1l, -⟩ := (V.out.1.keep hS1.kp).digd (good_dig _) (show k - 1 < k by omega); obtain ⟨bv', ov', v2, ebv', hv2, hv2B, hv2l, -⟩ := (V.out.1.keep hS1.kp).digd (good_dig _) (show k - 2 < k by omega); cases ebv; cases ebv'; rw [Nat.zero_add] at hv1 hv2
    have hv1p : 0 < v1 := by
     have h := topped_dig (y * 2 ^ s); rw [topped_last, List.getLast?_eq_getElem?, P.out.2.2.1, hv1l] at h
     simp at h; omega
    have hc0 : wr.cell? ⟨g, i + k, none⟩ = some (.int .i64 (t : Int)) := hS1.u.cell (RR_top hlo1 hwl); have hc1 : wr.cell? ⟨g, i + (k - 1), none⟩ = some (.int .i64 (u1 : Int)) := hS1.u.cell (RR_mid hlo1 hu1); have hc2 : wr.cell? ⟨g, i + (k - 2), none⟩ = some (.int .i64 (u2 : Int)) := hS1.u.cell (RR_mid hlo1 hu2)
    have hin : i + k < n + 1 := by have := hI.out.jl; omega
    have hgs : GS (ws ++ [t]) (dig (y * 2 ^ s)) k t u1 u2 v1 v2 := by
     refine ⟨?_, good_dig _, ?_, ?_, ?_, by simp [hwl], hv2l, hv1l, P.out.2.2.1, hv1p, by rw [val_dig]; exact V.out.2, ?_, hk2⟩
     · exact good_snoc hwg2 htB
     · rw [List.getElem?_append_left (by omega)]; exact hu2
     · rw [List.getElem?_append_left (by omega)]; exact hu1
     · rw [List.getElem?_append_right (by omega), hwl, Nat.sub_self]; rfl
     · rw [← hdr, val_dig]; exact hI.out.less hdB
    have W := Hd (And.intro hS1 (And.intro hlo (And.intro hlo1 (And.intro hdr (And.intro hwl (And.intro hwg2 (And.intro hlg (And.intro hdB (And.intro hu1 (And.intro hu2 (And.intro hv1l hv2l))))))))))); clear hlo hlo1 hdr hwl hwg2 hlg hdB hu1 hu2 hv1l hv2l htB ei hS hj; have s0 := stays_drew hc0; have s1 := stays_drew hc1
    have k1 : IntKind.i64.wrap ((i : Int) + (k : Int)) = (i : Int) + (k : Int) := by rw [IntKind.wrap_i64]; omega
    have k2 : IntKind.i64.wrap ((i : Int) + (k : Int) - 1) = (i : Int) + ((k - 1 : Nat) : Int) := by rw [IntKind.wrap_i64]; omega
    obtain ⟨hd, dq, g0, hhd, k4, hdB, k5, k6, k7, k3⟩ := head_facts (v1 := v1) htB1 hu1B
    have k8 : ¬ v1 = 0 := by omega
    have hv1d : wr.drew.cell? ⟨vb, k - 1, none⟩ = some (.int .i64 (v1 : Int)) := hv1; have HH := Hd hhd; clear hhd
    have j1 : (0 : Int) ≤ (i : Int) + (k : Int) := by omega
    have j2 : (i : Int) + (k : Int) < (n : Int) + 1 := by omega
    have j3 : ((i : Int) + (k : Int)).toNat = i + k := by omega
    have j4 : (0 : Int) ≤ (i : Int) + ((k - 1 : Nat) : Int) := by omega
    have j5 : (i : Int) + ((k - 1 : Nat) : Int) < (n : Int) + 1 := by omega
    have j6 : ((i : Int) + ((k - 1 : Nat) : Int)).toNat = i + (k - 1) := by omega
    gi_wp2; refine wpIn_region_all [] (List.range 16) (by kernel_rfl) (by kernel_rfl) ?_; simp only [show List.range 16 = [0,1,2,3,4,5,6,7,8,9,10,11,12,13,14,15] from rfl]
    repeat ((first | refine ord_rd ?_ | refine ord_sk ?_ | refine ord_cs ?_))
    refine ord_nil ?_; refine lit ?_; gi_wp2; have GSH := Hd hgs; have LS0 := Hd hS1.drew; clear hgs hc0 hc1 hc2 hv1 hv2 hv1d s0 s1 k4 k5 k6 k7 k3 hS1
    gi_loopw [12] (fun v wr => ∃ gg : Nat, v = .int .i64 gg ∧ gg ≤ 1073741823 ∧ Hid (GuessOk (ws ++ [t]) (dig (y * 2 ^ s)) gg ∧ gg * v1 ≤ hd) ∧ Hid (LS w W4 wr g W3.heap.size cc n (RR lo' ws (t : Int) rest) Q)) (fun v _ => (intOf v).toNat)
    case atStart => exact ⟨g0, rfl, by rw [HH.out.2.2]; exact Nat.min_le_right _ _, by rw [HH.out.2.2, HH.out.1]; exact GSH.out.start, LS0.out⟩
    case round =>
     obtain ⟨gg, rfl, hgB, hG, hS2⟩ := hrel; obtain ⟨X, Y, hX, f1, f2, f3, f4, f5⟩ := test_facts hdB hgB hv1B hv2B hu2B hG.out.2; have hc0 : wr.cell? ⟨g, i + k, none⟩ = some (.int .i64 (t : Int)) := hS2.out.u.cell (RR_top W.out.2.2.1 W.out.2.2.2.2.1); have hc2 : wr.cell? ⟨g, i + (k - 2), none⟩ = some (.int .i64 (u2 : Int)) := hS2.out.u.cell (RR_mid W.out.2.2.1 W.out.2.2.2.2.2.2.2.2.2.1); have kv := V.out.1.keep hS2.out.kp
     have hv1 : wr.cell? ⟨vb, k - 1, none⟩ = some (.int .i64 (v1 : Int)) := by
      obtain ⟨bv, ov, q, ebv, h1, -, h2, -⟩ := kv.digd (good_dig _) (show k - 1 < k by omega); cases ebv; rw [W.out.2.2.2.2.2.2.2.2.2.2.1] at h2; cases h2
      rwa [Nat.zero_add] at h1
     have hv2 : wr.cell? ⟨vb, k - 2, none⟩ = some (.int .i64 (v2 : Int)) := by
      obtain ⟨bv, ov, q, ebv, h1, -, h2, -⟩ := kv.digd (good_dig _) (show k - 2 < k by omega); cases ebv; rw [W.out.2.2.2.2.2.2.2.2.2.2.2] at h2; cases h2
      rwa [Nat.zero_add] at h1
     have s1 := stays_drew hv1; have s2 := stays_drew hv2; have s3 := stays_drew hc2
     have kw2 : IntKind.i64.wrap ((k : Int) - 2) = ((k - 2 : Nat) : Int) := by rw [IntKind.wrap_i64]; omega
     have k9 : IntKind.i64.wrap ((i : Int) + (k : Int) - 2) = (i : Int) + ((k - 2 : Nat) : Int) := by rw [IntKind.wrap_i64]; omega
     have j7 : (0 : Int) ≤ (i : Int) + ((k - 2 : Nat) : Int) := by omega
     have j8 : (i : Int) + ((k - 2 : Nat) : Int) < (n : Int) + 1 := by omega
     have j9 : ((i : Int) + ((k - 2 : Nat) : Int)).toNat = i + (k - 2) := by omega
     have j10 : k - 1 < k := by omega
     have j11 : k - 2 < k := by omega
     have FX := Hd2 hX f5; have KV := Hd kv; clear hX f5 kv hc0 hc2 hv1 hv2 ek
     by_cases hc : Y < (gg : Int) * (v2 : Int) ∧ X ≤ 1073741823
     · obtain ⟨c1, c2⟩ := hc
       have q1 : decide (Y < (gg : Int) * (v2 : Int)) = true := decide_eq_true c1; have q2 : decide ((X : Int) ≤ 1073741823) = true := decide_eq_true (by omega); gi_wp2; refine wpIn_region_all [] (List.range 38) (by kernel_rfl) (by kernel_rfl) ?_; simp only [show List.range 38 = [0,1,2,3,4,5,6,7,8,9,10,11,12,13,14,15,16,17,18,19,20,21,22,23,24,25,26,27,28,29,30,31,32,33,34,35,36,37] from rfl]
       repeat ((first | refine ord_rd ?_ | refine ord_sk ?_ | refine ord_cs ?_))
       refine ord_nil ?_; refine lit ?_; gi_wp2; have hle := hG.out.2; rw [HH.out.1] at hle; have hX := FX.out.1; rw [HH.out.1] at hX; obtain ⟨e1, e2, e3⟩ := GSH.out.less hG.out.1 hle hX (by have h1 := FX.out.2 c2; have h2 : ((gg * v2 : Nat) : Int) = (gg : Int) * (v2 : Int) := Int.natCast_mul ..; omega); rw [← HH.out.1] at e3; exact ⟨⟨gg - 1, by congr 1; omega, by omega, ⟨e2, e3⟩, hS2.out.drew⟩, by simp [intOf]; omega⟩
     · have hnear : gg * val (dig (y * 2 ^ s)) ≤ val (ws ++ [t]) + val (dig (y * 2 ^ s)) := by
        have hle := hG.out.2; rw [HH.out.1] at hle; have hX := FX.out.1; rw [HH.out.1] at hX; refine GSH.out.done hG.out.1 hle hX ?_
        by_cases c2 : X ≤ 1073741823
        · right
          have h1 := FX.out.2 c2; have h2 : ((gg * v2 : Nat) : Int) = (gg : Int) * (v2 : Int) := Int.natCast_mul ..
          have h3 : ¬ Y < (gg : Int) * (v2 : Int) := fun e => hc ⟨e, c2⟩
          omega
        · left
          exact Nat.lt_of_lt_of_le (show BB - 1 < 1073741824 by decide) (by omega)
       have HN := Hd hnear; clear hnear
       have hcase : (decide (Y < (gg : Int) * (v2 : Int)) = false) ∨ (decide (Y < (gg : Int) * (v2 : Int)) = true ∧ decide ((X : Int) ≤ 1073741823) = false) := by
        by_cases c1 : Y < (gg : Int) * (v2 : Int)
        · right
          exact ⟨decide_eq_true c1, decide_eq_false (fun e => hc ⟨c1, by omega⟩)⟩
        · left; exact decide_eq_false c1
       clear hc
       rcases hcase with q1 | ⟨q1, q2⟩
       · gi_wp2
         refine wpIn_region_all [] (List.range 38) (by kernel_rfl) (by kernel_rfl) ?_; simp only [show List.range 38 = [0,1,2,3,4,5,6,7,8,9,10,11,12,13,14,15,16,17,18,19,20,21,22,23,24,25,26,27,28,29,30,31,32,33,34,35,36,37] from rfl]
         repeat ((first | refine ord_rd ?_ | refine ord_sk ?_ | refine ord_cs ?_))
         refine ord_nil ?_; refine lit ?_; gi_wp2; have LS1 := Hd hS2.out.drew
         obtain ⟨F, hF⟩ : ∃ F, (List.range k).map (fun j => (digAt ws j : Int) - (gg : Int) * (digAt (dig (y * 2 ^ s)) j : Int)) = F := ⟨_, rfl⟩
         have hFl : F.length = k := by rw [← hF]; simp
         have HF := Hd hF; clear hF q1 s1 s2 s3 f1 f2 f3 f4 hS2
         gi_loopw [13, 121] (fun o v wr => ∃ (m : Nat) (ms : List Nat) (oo : Int), m ≤ k ∧ o = .int .i64 oo ∧ v = .int .i64 m ∧ -8589934592 ≤ oo ∧ oo ≤ 8589934592 ∧ Hid (CarI F m ms oo) ∧ Hid (LS w W4 wr g W3.heap.size cc n (RR lo' (ms ++ ws.drop m) (t : Int) rest) Q)) (fun _ v _ => k - (intOf v).toNat)
         case atStart => exact ⟨0, [], 0, Nat.zero_le _, rfl, rfl, by omega, by omega, CarI.start F, LS1.out⟩
         case round =>
          obtain ⟨m, ms, oo, hm, rfl, rfl, ho1, ho2, hC, hS3⟩ := hrel
          by_cases hlt : m < k
          · obtain ⟨wm, hwm⟩ : ∃ wm, ws[m]? = some wm := ⟨_, List.getElem?_eq_getElem (by rw [W.out.2.2.2.2.1]; exact hlt)⟩
            have hwmB := BB_le (W.out.2.2.2.2.2.1 wm (List.mem_of_getElem? hwm)); obtain ⟨bv, ov, vm, ebv, hvm, hvmB, hvml, hvmd⟩ := (V.out.1.keep hS3.out.kp).digd (good_dig _) hlt; cases ebv; rw [Nat.zero_add] at hvm
            have hmid : (ms ++ ws.drop m)[m]? = some wm := by
             rw [List.getElem?_append_right (by rw [hC.out.2.1]; exact Nat.le_refl _), hC.out.2.1, Nat.sub_self, List.getElem?_drop, Nat.add_zero]; exact hwm
            have hcu : wr.cell? ⟨g, i + m, none⟩ = some (.int .i64 (wm : Int)) := hS3.out.u.cell (RR_mid W.out.2.2.1 hmid)
            have hFx : F[m]? = some ((wm : Int) - (gg : Int) * (vm : Int)) := by
             rw [← HF.out, List.getElem?_map, List.getElem?_range hlt]; simp only [Option.map_some, hvmd]; rw [show digAt ws m = wm by simp [digAt, List.getD, hwm]]
            obtain ⟨f1, f2, f3, f4, f5⟩ := owed_facts hgB hwmB hvmB ho1 ho2; have hst := hC.out.step hFx; have hset : (ms ++ ws.drop m).set m (((wm : Int) - (gg : Int) * (vm : Int) + oo) % (BB : Int)).toNat = (ms ++ [(((wm : Int) - (gg : Int) * (vm : Int) + oo) % (BB : Int)).toNat]) ++ ws.drop (m + 1) := set_mid hC.out.2.1 (by rw [W.out.2.2.2.2.1]; exact hlt) _; have hput := hS3.out.drew.putU (by omega) hwg (i + m) ((((wm : Int) - (gg : Int) * (vm : Int) + oo) % (BB : Int)).toNat : Int); rw [RR_set_mid W.out.2.2.1 (by rw [List.length_append, hC.out.2.1, List.length_drop, W.out.2.2.2.2.1]; omega), hset, Int.toNat_of_nonneg (Int.emod_nonneg _ (by decide))] at hput; have HST := Hd2 hst hput; have s1 := stays_drew hcu; have s2 := stays_drew hvm; have y1 : wr.drew.cell? ⟨g, i + m, none⟩ = some (.int .i64 (wm : Int)) := hcu; have y2 : wr.drew.frozen? ⟨g, i + m, none⟩ = false := hS3.out.u.free _
            have g1 : IntKind.i64.wrap ((i : Int) + (m : Int)) = (i : Int) + (m : Int) := by rw [IntKind.wrap_i64]; omega
            have g2 : (0 : Int) ≤ (i : Int) + (m : Int) := by omega
            have g3 : (i : Int) + (m : Int) < (n : Int) + 1 := by omega
            have g4 : ((i : Int) + (m : Int)).toNat = i + m := by omega
            have k20 := and_mask ((wm : Int) - (gg : Int) * (vm : Int) + oo); have F45 := Hd2 f4 f5; clear hst hset hput hwm hvml hvmd hmid hcu hFx hvm f4 f5; gi_wp2; refine wpIn_region_all [] (List.range 16) (by kernel_rfl) (by kernel_rfl) ?_; simp only [show List.range 16 = [0,1,2,3,4,5,6,7,8,9,10,11,12,13,14,15] from rfl]
            repeat ((first | refine ord_rd ?_ | refine ord_sk ?_ | refine ord_cs ?_))
            refine ord_nil ?_; refine lit ?_; gi_wp2; exact ⟨⟨m + 1, _, _, by omega, rfl, by go_num, F45.out.1, F45.out.2, HST.out.1, HST.out.2⟩, by simp [intOf]; omega⟩
          · have hmk : k = m := by omega
            subst hmk
            have hcf : carryM F 0 = (ms, oo) := by
             have h := hC.out.1; rw [List.drop_of_length_le (by omega)] at h
             simpa [carryM] using h
            have hml := hC.out.2.1; have hmg := hC.out.2.2; have hS4 := hS3.out; rw [List.drop_of_length_le (by rw [W.out.2.2.2.2.1]; exact Nat.le_refl _), List.append_nil] at hS4
            have hF' : (List.range (dig (y * 2 ^ s)).length).map (fun j => (digAt ws j : Int) - (gg : Int) * (digAt (dig (y * 2 ^ s)) j : Int)) = F := by rw [P.out.2.2.1]; exact HF.out
            have hct : wr.cell? ⟨g, i + k, none⟩ = some (.int .i64 (t : Int)) := hS4.u.cell (RR_top W.out.2.2.1 hml); have hft : wr.frozen? ⟨g, i + k, none⟩ = false := hS4.u.free _
            have hilt : i < n - k + 1 := by have := hI.out.jl; omega
            have hwv : val (dd :: rs) = val (ws ++ [t]) := by rw [W.out.2.2.2.1]
            have hvv : val (dig (y * 2 ^ s)) = y * 2 ^ s := val_dig _
            obtain ⟨oldq, hoq⟩ : ∃ oldq, Q[i]? = some oldq := ⟨_, List.getElem?_eq_getElem (by rw [hI.out.ql]; exact hilt)⟩
            have g2 : (0 : Int) ≤ (i : Int) + (k : Int) := by omega
            by_cases hneg : (t : Int) + oo < 0
            · obtain ⟨d0, d1, d2, d3⟩ := digit_back (us := ws ++ [t]) (vs := dig (y * 2 ^ s)) (ws := ws) (t := t) (g := gg) rfl (by rw [W.out.2.2.2.2.1, P.out.2.2.1]) (good_dig _) HN.out (m := ms) (o := oo) (by rw [hF']; exact hcf) hneg
              rw [P.out.2.2.1] at d2 d3
              obtain ⟨F2, hF2⟩ : ∃ F2, (List.range k).map (fun j => (digAt ms j : Int) + (digAt (dig (y * 2 ^ s)) j : Int)) = F2 := ⟨_, rfl⟩
              rw [hF2] at d2 d3
              have hF2l : F2.length = k := by rw [← hF2]; simp
              have k30 : IntKind.i64.wrap ((t : Int) + oo) = (t : Int) + oo := by rw [IntKind.wrap_i64]; omega
              have k31 : IntKind.i64.wrap ((gg : Int) - 1) = ((gg - 1 : Nat) : Int) := by rw [IntKind.wrap_i64]; omega
              have hput := hS4.putU (by omega) hwg (i + k) ((t : Int) + oo); rw [RR_set_top W.out.2.2.1 hml] at hput; have D := Hd (And.intro d0 (And.intro d1 (And.intro d2 (And.intro d3 (And.intro hF2 (And.intro hml (And.intro hmg (And.intro hwv (And.intro hvv (And.intro hoq (And.intro hput hft))))))))))); have q3 : decide ((t : Int) + oo < 0) = true := decide_eq_true hneg; clear hput d0 d1 d2 d3 hF2 hml hmg hwv hvv hcf hF' hC hS3 hS4 hoq; gi_wp2
              gi_loopw [16, 169] (fun o v wr => ∃ (m : Nat) (ms2 : List Nat) (o2 : Int), m ≤ k ∧ o = .int .i64 o2 ∧ v = .int .i64 m ∧ -8589934592 ≤ o2 ∧ o2 ≤ 8589934592 ∧ Hid (CarI F2 m ms2 o2) ∧ Hid (LS w W4 wr g W3.heap.size cc n (RR lo' (ms2 ++ ms.drop m) ((t : Int) + oo) rest) Q)) (fun _ v _ => k - (intOf v).toNat)
              case atStart => exact ⟨0, [], 0, Nat.zero_le _, rfl, rfl, by omega, by omega, CarI.start F2, D.out.2.2.2.2.2.2.2.2.2.2.1⟩
              case round =>
               obtain ⟨m, ms2, o2, hm2, rfl, rfl, ho3, ho4, hC2, hS5⟩ := hrel
               by_cases hlt2 : m < k
               · obtain ⟨wm, hwm⟩ : ∃ wm, ms[m]? = some wm := ⟨_, List.getElem?_eq_getElem (by rw [D.out.2.2.2.2.2.1]; exact hlt2)⟩
                 have hwmB := BB_le (D.out.2.2.2.2.2.2.1 wm (List.mem_of_getElem? hwm)); obtain ⟨bv, ov, vm, ebv, hvm, hvmB, hvml, hvmd⟩ := (V.out.1.keep hS5.out.kp).digd (good_dig _) hlt2; cases ebv; rw [Nat.zero_add] at hvm
                 have hmid : (ms2 ++ ms.drop m)[m]? = some wm := by
                  rw [List.getElem?_append_right (by rw [hC2.out.2.1]; exact Nat.le_refl _), hC2.out.2.1, Nat.sub_self, List.getElem?_drop, Nat.add_zero]; exact hwm
                 have hcu : wr.cell? ⟨g, i + m, none⟩ = some (.int .i64 (wm : Int)) := hS5.out.u.cell (RR_mid W.out.2.2.1 hmid)
                 have hFx : F2[m]? = some ((wm : Int) + (vm : Int)) := by
                  rw [← D.out.2.2.2.2.1, List.getElem?_map, List.getElem?_range hlt2]; simp only [Option.map_some, hvmd]; rw [show digAt ms m = wm by simp [digAt, List.getD, hwm]]
                 obtain ⟨f1, f2, f4, f5⟩ := back_facts hwmB hvmB ho3 ho4; have hst := hC2.out.step hFx; have hset : (ms2 ++ ms.drop m).set m (((wm : Int) + (vm : Int) + o2) % (BB : Int)).toNat = (ms2 ++ [(((wm : Int) + (vm : Int) + o2) % (BB : Int)).toNat]) ++ ms.drop (m + 1) := set_mid hC2.out.2.1 (by rw [D.out.2.2.2.2.2.1]; exact hlt2) _; have hput := hS5.out.drew.putU (by omega) hwg (i + m) ((((wm : Int) + (vm : Int) + o2) % (BB : Int)).toNat : Int); rw [RR_set_mid W.out.2.2.1 (by rw [List.length_append, hC2.out.2.1, List.length_drop, D.out.2.2.2.2.2.1]; omega), hset, Int.toNat_of_nonneg (Int.emod_nonneg _ (by decide))] at hput; have HST := Hd2 hst hput; have s1 := stays_drew hcu; have s2 := stays_drew hvm; have y1 : wr.drew.cell? ⟨g, i + m, none⟩ = some (.int .i64 (wm : Int)) := hcu; have y2 : wr.drew.frozen? ⟨g, i + m, none⟩ = false := hS5.out.u.free _
                 have g1 : IntKind.i64.wrap ((i : Int) + (m : Int)) = (i : Int) + (m : Int) := by rw [IntKind.wrap_i64]; omega
                 have g2' : (0 : Int) ≤ (i : Int) + (m : Int) := by omega
                 have g3 : (i : Int) + (m : Int) < (n : Int) + 1 := by omega
                 have g4 : ((i : Int) + (m : Int)).toNat = i + m := by omega
                 have k20 := and_mask ((wm : Int) + (vm : Int) + o2); have F45 := Hd2 f4 f5; clear hst hset hput hwm hvml hvmd hmid hcu hFx hvm f4 f5; gi_wp2; refine wpIn_region_all [] (List.range 14) (by kernel_rfl) (by kernel_rfl) ?_; simp only [show List.range 14 = [0,1,2,3,4,5,6,7,8,9,10,11,12,13] from rfl]
                 repeat ((first | refine ord_rd ?_ | refine ord_sk ?_ | refine ord_cs ?_))
                 refine ord_nil ?_; refine lit ?_; gi_wp2; exact ⟨⟨m + 1, _, _, by omega, rfl, by go_num, F45.out.1, F45.out.2, HST.out.1, HST.out.2⟩, by simp [intOf]; omega⟩
               · have hmk : k = m := by omega
                 subst hmk
                 have hcf : carryM F2 0 = (ms2, o2) := by
                  have h := hC2.out.1; rw [List.drop_of_length_le (by omega)] at h
                  simpa [carryM] using h
                 have hS6 := hS5.out; rw [List.drop_of_length_le (by rw [D.out.2.2.2.2.2.1]; exact Nat.le_refl _), List.append_nil] at hS6; obtain ⟨d0, d1, d2, d3, hF2, hml, hmg, hwv, hvv, hoq, -, -⟩ := D.out; rw [hcf] at d2 d3; rw [hvv, ← hwv] at d1 d2
                 simp only at d2 d3
                 have hct2 : wr.cell? ⟨g, i + k, none⟩ = some (.int .i64 ((t : Int) + oo)) := hS6.u.cell (RR_top W.out.2.2.1 hC2.out.2.1); have hft2 : wr.frozen? ⟨g, i + k, none⟩ = false := hS6.u.free _
                 have k32 : IntKind.i64.wrap ((t : Int) + oo + o2) = 0 := by rw [d3]; rfl
                 have hput := hS6.putU (by omega) hwg (i + k) 0; rw [RR_set_top W.out.2.2.1 hC2.out.2.1, RR_zero] at hput; have z1 : (wr.setCell ⟨g, i + k, none⟩ (.int .i64 0)).cell? ⟨W3.heap.size, i, none⟩ = some (.int .i64 (oldq : Int)) := hput.q.cell (ints_get hoq); have z2 : (wr.setCell ⟨g, i + k, none⟩ (.int .i64 0)).frozen? ⟨W3.heap.size, i, none⟩ = false := hput.q.free _; have hput2 := hput.putQ hgq hwq i (gg - 1); obtain ⟨hstep, -⟩ := hI.out.step W.out.2.1 W.out.2.2.1 d2 hC2.out.2.1 hC2.out.2.2 V.out.2 W.out.2.2.2.2.2.2.2.1; rw [← d1] at hstep; have HH2 := Hd2 hstep hput2; clear hstep hput hput2 hcf hS6 d0 d1 d2 d3 hF2 hml hmg hwv hvv hoq hC2 hS5 D; gi_wp2; exact ⟨⟨i, _, _, _, _, by omega, rfl, HH2.out.1, HH2.out.2⟩, by simp [intOf]⟩
            · obtain ⟨d1, d2, d3⟩ := digit_found (us := ws ++ [t]) (vs := dig (y * 2 ^ s)) (ws := ws) (t := t) (g := gg) rfl (by rw [W.out.2.2.2.2.1, P.out.2.2.1]) (good_dig _) (by rw [val_dig]; exact V.out.2) hG.out.1 (by rw [hF', hcf]; exact Int.not_lt.1 hneg)
              rw [hF', hcf] at d2 d3; rw [hvv, ← hwv] at d1 d2
              simp only at d2 d3
              have k30 : IntKind.i64.wrap ((t : Int) + oo) = 0 := by rw [d3]; rfl
              have hput := hS4.putU (by omega) hwg (i + k) 0; rw [RR_set_top W.out.2.2.1 hml, RR_zero] at hput; have z1 : (wr.setCell ⟨g, i + k, none⟩ (.int .i64 0)).cell? ⟨W3.heap.size, i, none⟩ = some (.int .i64 (oldq : Int)) := hput.q.cell (ints_get hoq); have z2 : (wr.setCell ⟨g, i + k, none⟩ (.int .i64 0)).frozen? ⟨W3.heap.size, i, none⟩ = false := hput.q.free _; have hput2 := hput.putQ hgq hwq i gg; obtain ⟨hstep, -⟩ := hI.out.step W.out.2.1 W.out.2.2.1 d2 hml hmg V.out.2 W.out.2.2.2.2.2.2.2.1; rw [← d1] at hstep; have HH2 := Hd2 hstep hput2; clear hstep hput hput2 hcf hF' hS4 d1 d2 d3 hml hmg hwv hvv hoq hneg hC hS3; gi_wp2; exact ⟨⟨i, _, _, _, _, by omega, rfl, HH2.out.1, HH2.out.2⟩, by simp [intOf]⟩
       · gi_wp2
         refine wpIn_region_all [] (List.range 38) (by kernel_rfl) (by kernel_rfl) ?_; simp only [show List.range 38 = [0,1,2,3,4,5,6,7,8,9,10,11,12,13,14,15,16,17,18,19,20,21,22,23,24,25,26,27,28,29,30,31,32,33,34,35,36,37] from rfl]
         repeat ((first | refine ord_rd ?_ | refine ord_sk ?_ | refine ord_cs ?_))
         refine ord_nil ?_; refine lit ?_; gi_wp2; have LS1 := Hd hS2.out.drew
         obtain ⟨F, hF⟩ : ∃ F, (List.range k).map (fun j => (digAt ws j : Int) - (gg : Int) * (digAt (dig (y * 2 ^ s)) j : Int)) = F := ⟨_, rfl⟩
         have hFl : F.length = k := by rw [← hF]; simp
         have HF := Hd hF; clear hF q1 s1 s2 s3 f1 f2 f3 f4 hS2
         gi_loopw [13, 121] (fun o v wr => ∃ (m : Nat) (ms : List Nat) (oo : Int), m ≤ k ∧ o = .int .i64 oo ∧ v = .int .i64 m ∧ -8589934592 ≤ oo ∧ oo ≤ 8589934592 ∧ Hid (CarI F m ms oo) ∧ Hid (LS w W4 wr g W3.heap.size cc n (RR lo' (ms ++ ws.drop m) (t : Int) rest) Q)) (fun _ v _ => k - (intOf v).toNat)
         case atStart => exact ⟨0, [], 0, Nat.zero_le _, rfl, rfl, by omega, by omega, CarI.start F, LS1.out⟩
         case round =>
          obtain ⟨m, ms, oo, hm, rfl, rfl, ho1, ho2, hC, hS3⟩ := hrel
          by_cases hlt : m < k
          · obtain ⟨wm, hwm⟩ : ∃ wm, ws[m]? = some wm := ⟨_, List.getElem?_eq_getElem (by rw [W.out.2.2.2.2.1]; exact hlt)⟩
            have hwmB := BB_le (W.out.2.2.2.2.2.1 wm (List.mem_of_getElem? hwm)); obtain ⟨bv, ov, vm, ebv, hvm, hvmB, hvml, hvmd⟩ := (V.out.1.keep hS3.out.kp).digd (good_dig _) hlt; cases ebv; rw [Nat.zero_add] at hvm
            have hmid : (ms ++ ws.drop m)[m]? = some wm := by
             rw [List.getElem?_append_right (by rw [hC.out.2.1]; exact Nat.le_refl _), hC.out.2.1, Nat.sub_self, List.getElem?_drop, Nat.add_zero]; exact hwm
            have hcu : wr.cell? ⟨g, i + m, none⟩ = some (.int .i64 (wm : Int)) := hS3.out.u.cell (RR_mid W.out.2.2.1 hmid)
            have hFx : F[m]? = some ((wm : Int) - (gg : Int) * (vm : Int)) := by
             rw [← HF.out, List.getElem?_map, List.getElem?_range hlt]; simp only [Option.map_some, hvmd]; rw [show digAt ws m = wm by simp [digAt, List.getD, hwm]]
            obtain ⟨f1, f2, f3, f4, f5⟩ := owed_facts hgB hwmB hvmB ho1 ho2; have hst := hC.out.step hFx; have hset : (ms ++ ws.drop m).set m (((wm : Int) - (gg : Int) * (vm : Int) + oo) % (BB : Int)).toNat = (ms ++ [(((wm : Int) - (gg : Int) * (vm : Int) + oo) % (BB : Int)).toNat]) ++ ws.drop (m + 1) := set_mid hC.out.2.1 (by rw [W.out.2.2.2.2.1]; exact hlt) _; have hput := hS3.out.drew.putU (by omega) hwg (i + m) ((((wm : Int) - (gg : Int) * (vm : Int) + oo) % (BB : Int)).toNat : Int); rw [RR_set_mid W.out.2.2.1 (by rw [List.length_append, hC.out.2.1, List.length_drop, W.out.2.2.2.2.1]; omega), hset, Int.toNat_of_nonneg (Int.emod_nonneg _ (by decide))] at hput; have HST := Hd2 hst hput; have s1 := stays_drew hcu; have s2 := stays_drew hvm; have y1 : wr.drew.cell? ⟨g, i + m, none⟩ = some (.int .i64 (wm : Int)) := hcu; have y2 : wr.drew.frozen? ⟨g, i + m, none⟩ = false := hS3.out.u.free _
            have g1 : IntKind.i64.wrap ((i : Int) + (m : Int)) = (i : Int) + (m : Int) := by rw [IntKind.wrap_i64]; omega
            have g2 : (0 : Int) ≤ (i : Int) + (m : Int) := by omega
            have g3 : (i : Int) + (m : Int) < (n : Int) + 1 := by omega
            have g4 : ((i : Int) + (m : Int)).toNat = i + m := by omega
            have k20 := and_mask ((wm : Int) - (gg : Int) * (vm : Int) + oo); have F45 := Hd2 f4 f5; clear hst hset hput hwm hvml hvmd hmid hcu hFx hvm f4 f5; gi_wp2; refine wpIn_region_all [] (List.range 16) (by kernel_rfl) (by kernel_rfl) ?_; simp only [show List.range 16 = [0,1,2,3,4,5,6,7,8,9,10,11,12,13,14,15] from rfl]
            repeat ((first | refine ord_rd ?_ | refine ord_sk ?_ | refine ord_cs ?_))
            refine ord_nil ?_; refine lit ?_; gi_wp2; exact ⟨⟨m + 1, _, _, by omega, rfl, by go_num, F45.out.1, F45.out.2, HST.out.1, HST.out.2⟩, by simp [intOf]; omega⟩
          · have hmk : k = m := by omega
            subst hmk
            have hcf : carryM F 0 = (ms, oo) := by
             have h := hC.out.1; rw [List.drop_of_length_le (by omega)] at h
             simpa [carryM] using h
            have hml := hC.out.2.1; have hmg := hC.out.2.2; have hS4 := hS3.out; rw [List.drop_of_length_le (by rw [W.out.2.2.2.2.1]; exact Nat.le_refl _), List.append_nil] at hS4
            have hF' : (List.range (dig (y * 2 ^ s)).length).map (fun j => (digAt ws j : Int) - (gg : Int) * (digAt (dig (y * 2 ^ s)) j : Int)) = F := by rw [P.out.2.2.1]; exact HF.out
            have hct : wr.cell? ⟨g, i + k, none⟩ = some (.int .i64 (t : Int)) := hS4.u.cell (RR_top W.out.2.2.1 hml); have hft : wr.frozen? ⟨g, i + k, none⟩ = false := hS4.u.free _
            have hilt : i < n - k + 1 := by have := hI.out.jl; omega
            have hwv : val (dd :: rs) = val (ws ++ [t]) := by rw [W.out.2.2.2.1]
            have hvv : val (dig (y * 2 ^ s)) = y * 2 ^ s := val_dig _
            obtain ⟨oldq, hoq⟩ : ∃ oldq, Q[i]? = some oldq := ⟨_, List.getElem?_eq_getElem (by rw [hI.out.ql]; exact hilt)⟩
            have g2 : (0 : Int) ≤ (i : Int) + (k : Int) := by omega
            by_cases hneg : (t : Int) + oo < 0
            · obtain ⟨d0, d1, d2, d3⟩ := digit_back (us := ws ++ [t]) (vs := dig (y * 2 ^ s)) (ws := ws) (t := t) (g := gg) rfl (by rw [W.out.2.2.2.2.1, P.out.2.2.1]) (good_dig _) HN.out (m := ms) (o := oo) (by rw [hF']; exact hcf) hneg
              rw [P.out.2.2.1] at d2 d3
              obtain ⟨F2, hF2⟩ : ∃ F2, (List.range k).map (fun j => (digAt ms j : Int) + (digAt (dig (y * 2 ^ s)) j : Int)) = F2 := ⟨_, rfl⟩
              rw [hF2] at d2 d3
              have hF2l : F2.length = k := by rw [← hF2]; simp
              have k30 : IntKind.i64.wrap ((t : Int) + oo) = (t : Int) + oo := by rw [IntKind.wrap_i64]; omega
              have k31 : IntKind.i64.wrap ((gg : Int) - 1) = ((gg - 1 : Nat) : Int) := by rw [IntKind.wrap_i64]; omega
              have hput := hS4.putU (by omega) hwg (i + k) ((t : Int) + oo); rw [RR_set_top W.out.2.2.1 hml] at hput; have D := Hd (And.intro d0 (And.intro d1 (And.intro d2 (And.intro d3 (And.intro hF2 (And.intro hml (And.intro hmg (And.intro hwv (And.intro hvv (And.intro hoq (And.intro hput hft))))))))))); have q3 : decide ((t : Int) + oo < 0) = true := decide_eq_true hneg; clear hput d0 d1 d2 d3 hF2 hml hmg hwv hvv hcf hF' hC hS3 hS4 hoq; gi_wp2
              gi_loopw [16, 169] (fun o v wr => ∃ (m : Nat) (ms2 : List Nat) (o2 : Int), m ≤ k ∧ o = .int .i64 o2 ∧ v = .int .i64 m ∧ -8589934592 ≤ o2 ∧ o2 ≤ 8589934592 ∧ Hid (CarI F2 m ms2 o2) ∧ Hid (LS w W4 wr g W3.heap.size cc n (RR lo' (ms2 ++ ms.drop m) ((t : Int) + oo) rest) Q)) (fun _ v _ => k - (intOf v).toNat)
              case atStart => exact ⟨0, [], 0, Nat.zero_le _, rfl, rfl, by omega, by omega, CarI.start F2, D.out.2.2.2.2.2.2.2.2.2.2.1⟩
              case round =>
               obtain ⟨m, ms2, o2, hm2, rfl, rfl, ho3, ho4, hC2, hS5⟩ := hrel
               by_cases hlt2 : m < k
               · obtain ⟨wm, hwm⟩ : ∃ wm, ms[m]? = some wm := ⟨_, List.getElem?_eq_getElem (by rw [D.out.2.2.2.2.2.1]; exact hlt2)⟩
                 have hwmB := BB_le (D.out.2.2.2.2.2.2.1 wm (List.mem_of_getElem? hwm)); obtain ⟨bv, ov, vm, ebv, hvm, hvmB, hvml, hvmd⟩ := (V.out.1.keep hS5.out.kp).digd (good_dig _) hlt2; cases ebv; rw [Nat.zero_add] at hvm
                 have hmid : (ms2 ++ ms.drop m)[m]? = some wm := by
                  rw [List.getElem?_append_right (by rw [hC2.out.2.1]; exact Nat.le_refl _), hC2.out.2.1, Nat.sub_self, List.getElem?_drop, Nat.add_zero]; exact hwm
                 have hcu : wr.cell? ⟨g, i + m, none⟩ = some (.int .i64 (wm : Int)) := hS5.out.u.cell (RR_mid W.out.2.2.1 hmid)
                 have hFx : F2[m]? = some ((wm : Int) + (vm : Int)) := by
                  rw [← D.out.2.2.2.2.1, List.getElem?_map, List.getElem?_range hlt2]; simp only [Option.map_some, hvmd]; rw [show digAt ms m = wm by simp [digAt, List.getD, hwm]]
                 obtain ⟨f1, f2, f4, f5⟩ := back_facts hwmB hvmB ho3 ho4; have hst := hC2.out.step hFx; have hset : (ms2 ++ ms.drop m).set m (((wm : Int) + (vm : Int) + o2) % (BB : Int)).toNat = (ms2 ++ [(((wm : Int) + (vm : Int) + o2) % (BB : Int)).toNat]) ++ ms.drop (m + 1) := set_mid hC2.out.2.1 (by rw [D.out.2.2.2.2.2.1]; exact hlt2) _; have hput := hS5.out.drew.putU (by omega) hwg (i + m) ((((wm : Int) + (vm : Int) + o2) % (BB : Int)).toNat : Int); rw [RR_set_mid W.out.2.2.1 (by rw [List.length_append, hC2.out.2.1, List.length_drop, D.out.2.2.2.2.2.1]; omega), hset, Int.toNat_of_nonneg (Int.emod_nonneg _ (by decide))] at hput; have HST := Hd2 hst hput; have s1 := stays_drew hcu; have s2 := stays_drew hvm; have y1 : wr.drew.cell? ⟨g, i + m, none⟩ = some (.int .i64 (wm : Int)) := hcu; have y2 : wr.drew.frozen? ⟨g, i + m, none⟩ = false := hS5.out.u.free _
                 have g1 : IntKind.i64.wrap ((i : Int) + (m : Int)) = (i : Int) + (m : Int) := by rw [IntKind.wrap_i64]; omega
                 have g2' : (0 : Int) ≤ (i : Int) + (m : Int) := by omega
                 have g3 : (i : Int) + (m : Int) < (n : Int) + 1 := by omega
                 have g4 : ((i : Int) + (m : Int)).toNat = i + m := by omega
                 have k20 := and_mask ((wm : Int) + (vm : Int) + o2); have F45 := Hd2 f4 f5; clear hst hset hput hwm hvml hvmd hmid hcu hFx hvm f4 f5; gi_wp2; refine wpIn_region_all [] (List.range 14) (by kernel_rfl) (by kernel_rfl) ?_; simp only [show List.range 14 = [0,1,2,3,4,5,6,7,8,9,10,11,12,13] from rfl]
                 repeat ((first | refine ord_rd ?_ | refine ord_sk ?_ | refine ord_cs ?_))
                 refine ord_nil ?_; refine lit ?_; gi_wp2; exact ⟨⟨m + 1, _, _, by omega, rfl, by go_num, F45.out.1, F45.out.2, HST.out.1, HST.out.2⟩, by simp [intOf]; omega⟩
               · have hmk : k = m := by omega
                 subst hmk
                 have hcf : carryM F2 0 = (ms2, o2) := by
                  have h := hC2.out.1; rw [List.drop_of_length_le (by omega)] at h
                  simpa [carryM] using h
                 have hS6 := hS5.out; rw [List.drop_of_length_le (by rw [D.out.2.2.2.2.2.1]; exact Nat.le_refl _), List.append_nil] at hS6; obtain ⟨d0, d1, d2, d3, hF2, hml, hmg, hwv, hvv, hoq, -, -⟩ := D.out; rw [hcf] at d2 d3; rw [hvv, ← hwv] at d1 d2
                 simp only at d2 d3
                 have hct2 : wr.cell? ⟨g, i + k, none⟩ = some (.int .i64 ((t : Int) + oo)) := hS6.u.cell (RR_top W.out.2.2.1 hC2.out.2.1); have hft2 : wr.frozen? ⟨g, i + k, none⟩ = false := hS6.u.free _
                 have k32 : IntKind.i64.wrap ((t : Int) + oo + o2) = 0 := by rw [d3]; rfl
                 have hput := hS6.putU (by omega) hwg (i + k) 0; rw [RR_set_top W.out.2.2.1 hC2.out.2.1, RR_zero] at hput; have z1 : (wr.setCell ⟨g, i + k, none⟩ (.int .i64 0)).cell? ⟨W3.heap.size, i, none⟩ = some (.int .i64 (oldq : Int)) := hput.q.cell (ints_get hoq); have z2 : (wr.setCell ⟨g, i + k, none⟩ (.int .i64 0)).frozen? ⟨W3.heap.size, i, none⟩ = false := hput.q.free _; have hput2 := hput.putQ hgq hwq i (gg - 1); obtain ⟨hstep, -⟩ := hI.out.step W.out.2.1 W.out.2.2.1 d2 hC2.out.2.1 hC2.out.2.2 V.out.2 W.out.2.2.2.2.2.2.2.1; rw [← d1] at hstep; have HH2 := Hd2 hstep hput2; clear hstep hput hput2 hcf hS6 d0 d1 d2 d3 hF2 hml hmg hwv hvv hoq hC2 hS5 D; gi_wp2; exact ⟨⟨i, _, _, _, _, by omega, rfl, HH2.out.1, HH2.out.2⟩, by simp [intOf]⟩
            · obtain ⟨d1, d2, d3⟩ := digit_found (us := ws ++ [t]) (vs := dig (y * 2 ^ s)) (ws := ws) (t := t) (g := gg) rfl (by rw [W.out.2.2.2.2.1, P.out.2.2.1]) (good_dig _) (by rw [val_dig]; exact V.out.2) hG.out.1 (by rw [hF', hcf]; exact Int.not_lt.1 hneg)
              rw [hF', hcf] at d2 d3; rw [hvv, ← hwv] at d1 d2
              simp only at d2 d3
              have k30 : IntKind.i64.wrap ((t : Int) + oo) = 0 := by rw [d3]; rfl
              have hput := hS4.putU (by omega) hwg (i + k) 0; rw [RR_set_top W.out.2.2.1 hml, RR_zero] at hput; have z1 : (wr.setCell ⟨g, i + k, none⟩ (.int .i64 0)).cell? ⟨W3.heap.size, i, none⟩ = some (.int .i64 (oldq : Int)) := hput.q.cell (ints_get hoq); have z2 : (wr.setCell ⟨g, i + k, none⟩ (.int .i64 0)).frozen? ⟨W3.heap.size, i, none⟩ = false := hput.q.free _; have hput2 := hput.putQ hgq hwq i gg; obtain ⟨hstep, -⟩ := hI.out.step W.out.2.1 W.out.2.2.1 d2 hml hmg V.out.2 W.out.2.2.2.2.2.2.2.1; rw [← d1] at hstep; have HH2 := Hd2 hstep hput2; clear hstep hput hput2 hcf hF' hS4 d1 d2 d3 hml hmg hwv hvv hoq hneg hC hS3; gi_wp2; exact ⟨⟨i, _, _, _, _, by omega, rfl, HH2.out.1, HH2.out.2⟩, by simp [intOf]⟩
end Go.Proofs.YtboapndkopabiaaGreat
