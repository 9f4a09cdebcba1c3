/- Lemmas and walks (Rng11 Rng12 Rng13). No statement is proved here. -/
import Derived.Test.YtboapndkopabiaaGreatM34
set_option linter.unusedVariables false
set_option linter.unusedSimpArgs false
namespace Go.Proofs.YtboapndkopabiaaGreat
section
open Go.RowKit Go.Shelf
attribute [local go_sem] Oper.semAt_some
theorem assert_stop (x : Int) (w : World) : (Instr.typeAssert (stopV x) 20 97 true).run Tryz.prog w = .ok (.tuple #[.agg #[.int .i64 x], .bool true]) w := by kernel_rfl
set_option maxRecDepth 20000 in
theorem caughtG_pan {n : Nat} (p : Addr) (x y : Int) (older : List PanicEntry) (w : World) (hc : w.cell? p = some (.int .i64 y)) (hf : w.frozen? p = false) :
 CallsDIn Fence.wide n Tryz.prog 29 #[.pointer (some p)] (.panicking ({ v := stopV x, recovered := false } :: older)) w fun e u' w' =>
  e = .returned (.tuple #[]) ∧ u' = .panicking ({ v := stopV x, recovered := true } :: older) ∧ w' = (w.alloc (.cells #[.int .i64 x] 97)).setCell p (.int .i64 x) := by
 refine callsDIn_of_wpSIn Tryz.func29 rfl trivial fun c₀ cs hu => ?_
 apply wpSIn_seq
 apply wpSIn_region
 simp [wpOpsSIn, go_sem, recoverD, hu, Tryz.ntmps29, Exit.thenS]
 refine wpSIn_of_wpIn rfl ?_
 refine Go.wpIn_mono (Q := fun e a' w' => e = .normal ∧ a'.defers = [] ∧ w' = (w.alloc (.cells #[.int .i64 x] 97)).setCell p (.int .i64 x)) ?_ ?_
 rotate_left
 · rintro e a' w' ⟨rfl, hd, rfl⟩
   simp [bodyPostS, results, Tryz.results29, hd]
 clear hu
 have hta := assert_stop x
 have hc2 := cell_al (.cells #[.int .i64 x] 97) hc
 have hf2 := free_al (.cells #[.int .i64 x] 97) hc hf
 simp only [Array.replicate_succ, Array.replicate_zero, List.push_toArray, List.append_toArray, List.nil_append, List.cons_append, List.setIfInBounds_toArray, List.set_cons_succ, List.set_cons_zero]
 gi_wp2
theorem GW.keepY {V V' : World} {M : List Nat} {y : Nat} {v : Value} {x : Rg} (h : GW V (y :: M) v x) (k : Keeps [y] V V') : GW V' M v x := by
 obtain ⟨p1, q1, A1, n1, c1, B1, m1, d1, p2, q2, A2, n2, c2, B2, m2, d2, rfl, h1, h2⟩ := h
 exact ⟨p1, q1, A1, n1, c1, B1, m1, d1, p2, q2, A2, n2, c2, B2, m2, d2, rfl, h1.keepY k, h2.keepY k⟩
theorem gw0 (w : World) (M : List Nat) : GW w M (.agg #[.bool false, .slice none 0 0, .bool false, .slice none 0 0, .bool false, .slice none 0 0, .bool false, .slice none 0 0]) zR := ⟨_, _, _, _, _, _, _, _, _, _, _, _, _, _, _, _, rfl, qc0 _ _, qc0 _ _⟩
theorem fin9 {w V : World} {M : List Nat} {b e s : Nat} {p1 q1 p2 q2 : Bool} {A1 B1 A2 B2 : Option Addr} {n1 c1 m1 d1 n2 c2 m2 d2 : Nat} {x : Rg} {u0 u1 u2 u3 u4 u5 u6 u7 u8 : Value}
 (h0 : V.cell? ⟨b, 0, none⟩ = some u0) (h1 : V.cell? ⟨b, 1, none⟩ = some u1) (h2 : V.cell? ⟨b, 2, none⟩ = some u2) (h3 : V.cell? ⟨b, 3, none⟩ = some u3) (h4 : V.cell? ⟨b, 4, none⟩ = some u4) (h5 : V.cell? ⟨b, 5, none⟩ = some u5) (h6 : V.cell? ⟨b, 6, none⟩ = some u6) (h7 : V.cell? ⟨b, 7, none⟩ = some u7) (h8 : V.cell? ⟨e, 0, none⟩ = some u8)
 (lo : QC V (b :: e :: M) x.1 p1 q1 A1 n1 c1 B1 m1 d1) (hi : QC V (b :: e :: M) x.2 p2 q2 A2 n2 c2 B2 m2 d2) (hb : Below s w V) (hsb : s ≤ b) (hse : s ≤ e) (hbe : b ≠ e) (E : Int) :
 ∃ wF, ((((((((V.setCell ⟨b, 0, none⟩ (.bool p1)).setCell ⟨b, 1, none⟩ (.slice A1 n1 c1)).setCell ⟨b, 2, none⟩ (.bool q1)).setCell ⟨b, 3, none⟩ (.slice B1 m1 d1)).setCell ⟨b, 4, none⟩ (.bool p2)).setCell ⟨b, 5, none⟩ (.slice A2 n2 c2)).setCell ⟨b, 6, none⟩ (.bool q2)).setCell ⟨b, 7, none⟩ (.slice B2 m2 d2)).setCell ⟨e, 0, none⟩ (.int .i64 E) = wF ∧
  (wF.cell? ⟨b, 0, none⟩ = some (.bool p1) ∧ wF.cell? ⟨b, 1, none⟩ = some (.slice A1 n1 c1) ∧ wF.cell? ⟨b, 2, none⟩ = some (.bool q1) ∧ wF.cell? ⟨b, 3, none⟩ = some (.slice B1 m1 d1)) ∧ (wF.cell? ⟨b, 4, none⟩ = some (.bool p2) ∧ wF.cell? ⟨b, 5, none⟩ = some (.slice A2 n2 c2) ∧ wF.cell? ⟨b, 6, none⟩ = some (.bool q2) ∧ wF.cell? ⟨b, 7, none⟩ = some (.slice B2 m2 d2)) ∧ wF.cell? ⟨e, 0, none⟩ = some (.int .i64 E) ∧
  GW wF M (.agg #[.bool p1, .slice A1 n1 c1, .bool q1, .slice B1 m1 d1, .bool p2, .slice A2 n2 c2, .bool q2, .slice B2 m2 d2]) x ∧ Below s w wF := by
 obtain ⟨w8, hw8, ⟨t0, t1, t2, t3⟩, ⟨t4, t5, t6, t7⟩, hG, bF⟩ := fin8 (M := e :: M) h0 h1 h2 h3 h4 h5 h6 h7 lo hi hb hsb
 have kp := (Keeps.refl [e] w8).setCell (p := ⟨e, 0, none⟩) (.inl (by simp)) (.int .i64 E)
 have hbn : b ∉ [e] := by simp; exact hbe
 have h8' : w8.cell? ⟨e, 0, none⟩ = some u8 := by
  have k8 := ((((((((Keeps.refl [b] V).setCell (p := ⟨b, 0, none⟩) (.inl (by simp)) (.bool p1)).setCell (p := ⟨b, 1, none⟩) (.inl (by simp)) (.slice A1 n1 c1)).setCell (p := ⟨b, 2, none⟩) (.inl (by simp)) (.bool q1)).setCell (p := ⟨b, 3, none⟩) (.inl (by simp)) (.slice B1 m1 d1)).setCell (p := ⟨b, 4, none⟩) (.inl (by simp)) (.bool p2)).setCell (p := ⟨b, 5, none⟩) (.inl (by simp)) (.slice A2 n2 c2)).setCell (p := ⟨b, 6, none⟩) (.inl (by simp)) (.bool q2)).setCell (p := ⟨b, 7, none⟩) (.inl (by simp)) (.slice B2 m2 d2); rw [hw8] at k8; exact k8.cell (by simp; exact fun h => hbe h.symm) h8
 rw [hw8]
 exact ⟨_, rfl, ⟨kp.cell hbn t0, kp.cell hbn t1, kp.cell hbn t2, kp.cell hbn t3⟩, ⟨kp.cell hbn t4, kp.cell hbn t5, kp.cell hbn t6, kp.cell hbn t7⟩, cell_same h8', hG.keepY kp, bF.setCell (p := ⟨e, 0, none⟩) hse _⟩
set_option maxRecDepth 20000 in
set_option maxHeartbeats 4000000 in
theorem gout_bad {M : List Nat} {A B : Option Addr} {n c m d : Nat} {p : List InsR} {ins : List RngR} {w : World} (hM : Bel M w) (hp : Sl InsR w M A n c p) (hi : Sl RngR w M B m d ins) (hc : codeE p m ≠ 0) :
 Calls Tryz.prog 11 #[.slice A n c, .slice B m d] w (OutR w M p ins) := by
 refine wid ?_
 have hsp := hp.small
 have hsi := hi.small
 have hl : ins.length = m := hi.len
 have HE := Hd (show outE p ins = 190 by unfold outE; rw [hl, if_neg hc])
 have HV := Hd (show outV p ins = zeroG by unfold outV; rw [HE.out]; rfl)
 have HC := Hd (codeE_not hc)
 obtain ⟨W1, hW1, F1⟩ := nam (((Fr.nil w).a8 w.heap.size 33).a0 (w.heap.size + 1) 34)
 refine op1 F1 ?_; intros
 have F := Hd F1
 clear F1
 have H := Hd2 hM hp
 clear hM hp hi hc hl
 refine entd Tryz.func11 rfl Tryz.ntmps11 ?_
 gi_wp2_with (refine Cl 30 (ccodeE_any (M := M) _ n c p (m : Int) _ (H.out.1.le F.out.bl.size) (H.out.2.go F.out.bl)) ?_
              rintro e w2 ⟨rfl, hb2⟩; rw [HC.out]; have F2 := F.out.go hb2; refine op1 F2 ?_; intros; have G2 := Hd F2
              clear hb2 F2)
 have hz := G2.out.nth 0
 have hE := (G2.out.cel 1 0)
 obtain ⟨wF, hwF, ⟨t0, t1, t2, t3⟩, ⟨t4, t5, t6, t7⟩, t8, hG, bF⟩ := fin9 (M := M) (e := w.heap.size + 1) (hz 0 _ rfl) (hz 1 _ rfl) (hz 2 _ rfl) (hz 3 _ rfl) (hz 4 _ rfl) (hz 5 _ rfl) (hz 6 _ rfl) (hz 7 _ rfl) hE (x := zR) (qc0 _ _) (qc0 _ _) G2.out.bl (Nat.le_refl _) (by omega) (by omega) 190
 refine leavesIn_cons (f := 29) (args := #[.pointer (some ⟨w.heap.size + 1, 0, none⟩)]) (by simp) (by simp) (by simp [go_sem]) (fun _ _ => trivial) ?_
 try rw [hwF]
 refine (caughtG_idle ⟨w.heap.size + 1, 0, none⟩ _).mono ?_
 rintro e u' w'' ⟨rfl, rfl, rfl⟩
 refine ⟨.tuple #[.agg #[.bool false, .slice none 0 0, .bool false, .slice none 0 0, .bool false, .slice none 0 0, .bool false, .slice none 0 0], .int .i64 190], ?_, _, by first | (rw [HE.out]; done) | (rw [HE.out]; rfl), by rw [HV.out]; exact hG.gv0, bF⟩
 simp [results, Tryz.results11, go_sem, t0, t1, t2, t3, t4, t5, t6, t7, t8]
set_option maxRecDepth 20000 in
set_option maxHeartbeats 8000000 in
theorem gout_rat {M : List Nat} {A B : Option Addr} {n c m d : Nat} {p : List InsR} {ins : List RngR} {w : World} (hM : Bel M w) (hp : Sl InsR w M A n c p) (hi : Sl RngR w M B m d ins) (hc : codeE p m = 0) (hr : ins.all rngOk = false) :
 Calls Tryz.prog 11 #[.slice A n c, .slice B m d] w (OutR w M p ins) := by
 refine wid ?_
 have hsp := hp.small
 have hsi := hi.small
 have hl : ins.length = m := hi.len
 have HE := Hd (show outE p ins = 100 by unfold outE; rw [hl, if_pos hc, hr]; rfl)
 have HV := Hd (show outV p ins = zeroG by unfold outV; rw [HE.out]; rfl)
 have HC := Hd hc
 have H := Hd5 hM hp hi hr hl
 clear hM hp hi hc hr hl
 obtain ⟨W1, hW1, F1⟩ := nam (((Fr.nil w).a8 w.heap.size 33).a0 (w.heap.size + 1) 34)
 refine op1 F1 ?_; intros
 have F := Hd F1
 clear F1
 refine entd Tryz.func11 rfl Tryz.ntmps11 ?_
 gi_wp2_with (refine Cl 30 (ccodeE_any (M := M) _ n c p (m : Int) _ (H.out.1.le F.out.bl.size) (H.out.2.1.go F.out.bl)) ?_
              rintro e w2 ⟨rfl, hb2⟩; rw [HC.out]; have F2 := F.out.go hb2; refine op1 F2 ?_; intros; have G2 := Hd F2
              clear hb2 F2)
 gi_loopw [25] (fun i wr => ∃ k : Nat, k ≤ m ∧ i = .int .i64 k ∧ Hid ((ins.take k).all rngOk = true) ∧ Hid (Fr w wr [(w.heap.size, zG), (w.heap.size + 1, [.int .i64 0])])) (fun i _ => m - (intOf i).toNat)
 case atStart => exact ⟨0, Nat.zero_le _, rfl, Hd (by simp), G2.out⟩
 case round =>
  obtain ⟨k, hk, rfl, ht, hF⟩ := hrel; have hFo := hF.out; refine op1 hFo ?_; intros; clear hFo
  by_cases hlt : k < m
  · obtain ⟨x, hx⟩ : ∃ x, ins[k]? = some x := ⟨_, List.getElem?_eq_getElem (by rw [H.out.2.2.2.2]; exact hlt)⟩
    have HXK := Hd hx; obtain ⟨b, o, A1, n1, c1, A2, n2, c2, A3, n3, c3, A4, n4, c4, rfl, ⟨h0, h1, h2, h3⟩, ⟨h4, h5, h6, h7⟩, ⟨s1, s2⟩, s3, s4⟩ := (H.out.2.2.1.go hF.out.bl).rngat hx; have HX := Hd4 s1 s2 s3 s4
    obtain ⟨k1, hk1⟩ : ∃ k, ratE (ratOk ((x.1.1.1, x.1.1.2), (x.1.2.1, x.1.2.2))) = k := ⟨_, rfl⟩
    obtain ⟨k2, hk2⟩ : ∃ k, ratE (ratOk ((x.2.1.1, x.2.1.2), (x.2.2.1, x.2.2.2))) = k := ⟨_, rfl⟩
    have HK1 := Hd hk1; have HK2 := Hd hk2; have hk1' : ratE (ratOk x.1) = k1 := hk1; have hk2' : ratE (ratOk x.2) = k2 := hk2; clear hk1 hk2 s1 s2 s3 s4; generalize x.1.1.1 = p1 at *; generalize x.1.2.1 = q1 at *; generalize x.2.1.1 = p2 at *; generalize x.2.2.1 = q2 at *
    obtain ⟨Wk, hWk⟩ : ∃ W' : World, wr.alloc (.cells #[.bool p1, .slice A1 n1 c1, .bool q1, .slice A2 n2 c2, .bool p2, .slice A3 n3 c3, .bool q2, .slice A4 n4 c4] 33) = W' := ⟨_, rfl⟩
    have bk : Below wr.heap.size wr Wk := by rw [← hWk]; exact bel
    have RK : RowV Wk wr.heap.size [.bool p1, .slice A1 n1 c1, .bool q1, .slice A2 n2 c2, .bool p2, .slice A3 n3 c3, .bool q2, .slice A4 n4 c4] 33 := by rw [← hWk]; exact heap_alloc_new wr _
    have v0 := RK.cell (k := 0) rfl; have v1 := RK.cell (k := 1) rfl; have v2 := RK.cell (k := 2) rfl; have v3 := RK.cell (k := 3) rfl; have v4 := RK.cell (k := 4) rfl; have v5 := RK.cell (k := 5) rfl; have v6 := RK.cell (k := 6) rfl; have v7 := RK.cell (k := 7) rfl; have HBK := Hd2 bk RK; clear bk RK; clear hx; cases r1 : ratOk x.1
    · have e1 : k1 = 100 := by rw [← hk1', r1]; rfl
      subst e1; clear r1 hk1' hk2'
      gi_wp2_with (first
       | (refine ⟨trivial, ?_⟩; gi_at_call 31; have g' := G2.out; clear g'; refine Cn (must_no _ _) ?_; rintro e w9 ⟨rfl, rfl⟩)
       | (refine Cl 32 (qcheck_any (l1 := x.1.1.2) (l2 := x.1.2.2) (M := M) (H.out.1.le (Nat.le_trans hF.out.bl.size HBK.out.1.size)) (HX.out.1.go HBK.out.1) (HX.out.2.1.go HBK.out.1)) ?_
          rintro e w2 ⟨rfl, hb2⟩; rw [HK1.out]; have g0 := (hb2.cell (World.block_lt_of_cell? Wk _ v4)).trans v4; have g1 := (hb2.cell (World.block_lt_of_cell? Wk _ v5)).trans v5; have g2 := (hb2.cell (World.block_lt_of_cell? Wk _ v6)).trans v6; have g3 := (hb2.cell (World.block_lt_of_cell? Wk _ v7)).trans v7; have hbb := HBK.out.1.trans (hb2.mono HBK.out.1.size); have F2 := hF.out.go hbb; refine op1 F2 ?_; intros; have G2 := Hd2 F2 hbb
          clear hb2 F2 hbb)
       | (refine ⟨trivial, ?_⟩))
      refine leavesIn_cons (f := 29) (args := #[.pointer (some ⟨w.heap.size + 1, 0, none⟩)]) (by simp) (by simp) (by simp [go_sem]) (fun _ _ => trivial) ?_; have hE := G2.out.1.at_ (w.heap.size + 1) [.int .i64 0] (by simp) 0 _ rfl; refine (caughtG_pan ⟨w.heap.size + 1, 0, none⟩ 100 0 [] _ hE.1 hE.2).mono ?_; rintro e u' w'' ⟨rfl, rfl, rfl⟩; have hz := G2.out.1.nth 0; have z0 := hz 0 _ rfl; have z1 := hz 1 _ rfl; have z2 := hz 2 _ rfl; have z3 := hz 3 _ rfl; have z4 := hz 4 _ rfl; have z5 := hz 5 _ rfl; have z6 := hz 6 _ rfl; have z7 := hz 7 _ rfl; have hE1 := hE.1; refine ⟨.tuple #[.agg #[.bool false, .slice none 0 0, .bool false, .slice none 0 0, .bool false, .slice none 0 0, .bool false, .slice none 0 0], .int .i64 100], ?_, _, by first | (rw [HE.out]; done) | (rw [HE.out]; rfl), by rw [HV.out]; exact (gw0 _ _).gv0, (G2.out.1.bl.alloc G2.out.1.bl.size _).setCell (p := ⟨w.heap.size + 1, 0, none⟩) (by simp) _⟩
      simp [results, Tryz.results11, go_sem, z0, z1, z2, z3, z4, z5, z6, z7, hE1, cell_al _ z0, cell_al _ z1, cell_al _ z2, cell_al _ z3, cell_al _ z4, cell_al _ z5, cell_al _ z6, cell_al _ z7, cell_al _ hE1]
    · have e1 : k1 = 0 := by rw [← hk1', r1]; rfl
      subst e1; cases r2 : ratOk x.2
      · have e2 : k2 = 100 := by rw [← hk2', r2]; rfl
        subst e2; clear r1 r2 hk1' hk2'
        gi_wp2_with (first
         | (refine ⟨trivial, ?_⟩; gi_at_call 31; have g' := G3.out; clear g'; refine Cn (must_no _ _) ?_; rintro e w9 ⟨rfl, rfl⟩)
         | (refine ⟨trivial, ?_⟩; gi_at_call 32; have g' := G2.out; clear g'
            refine Cn (qcheck_any (l1 := x.2.1.2) (l2 := x.2.2.2) (M := M) (H.out.1.le G2.out.1.bl.size) (HX.out.2.2.1.go G2.out.2) (HX.out.2.2.2.go G2.out.2)) ?_; rintro e w3 ⟨rfl, hb3⟩; rw [HK2.out]; have F3 := G2.out.1.go hb3; refine op1 F3 ?_; intros; have G3 := Hd F3
            clear hb3 F3)
         | (refine Cl 32 (qcheck_any (l1 := x.1.1.2) (l2 := x.1.2.2) (M := M) (H.out.1.le (Nat.le_trans hF.out.bl.size HBK.out.1.size)) (HX.out.1.go HBK.out.1) (HX.out.2.1.go HBK.out.1)) ?_
            rintro e w2 ⟨rfl, hb2⟩; rw [HK1.out]; have g0 := (hb2.cell (World.block_lt_of_cell? Wk _ v4)).trans v4; have g1 := (hb2.cell (World.block_lt_of_cell? Wk _ v5)).trans v5; have g2 := (hb2.cell (World.block_lt_of_cell? Wk _ v6)).trans v6; have g3 := (hb2.cell (World.block_lt_of_cell? Wk _ v7)).trans v7; have hbb := HBK.out.1.trans (hb2.mono HBK.out.1.size); have F2 := hF.out.go hbb; refine op1 F2 ?_; intros; have G2 := Hd2 F2 hbb
            clear hb2 F2 hbb)
         | fail)
        refine leavesIn_cons (f := 29) (args := #[.pointer (some ⟨w.heap.size + 1, 0, none⟩)]) (by simp) (by simp) (by simp [go_sem]) (fun _ _ => trivial) ?_; have hE := G3.out.at_ (w.heap.size + 1) [.int .i64 0] (by simp) 0 _ rfl; refine (caughtG_pan ⟨w.heap.size + 1, 0, none⟩ 100 0 [] _ hE.1 hE.2).mono ?_; rintro e u' w'' ⟨rfl, rfl, rfl⟩; have hz := G3.out.nth 0; have z0 := hz 0 _ rfl; have z1 := hz 1 _ rfl; have z2 := hz 2 _ rfl; have z3 := hz 3 _ rfl; have z4 := hz 4 _ rfl; have z5 := hz 5 _ rfl; have z6 := hz 6 _ rfl; have z7 := hz 7 _ rfl; have hE1 := hE.1; refine ⟨.tuple #[.agg #[.bool false, .slice none 0 0, .bool false, .slice none 0 0, .bool false, .slice none 0 0, .bool false, .slice none 0 0], .int .i64 100], ?_, _, by first | (rw [HE.out]; done) | (rw [HE.out]; rfl), by rw [HV.out]; exact (gw0 _ _).gv0, (G3.out.bl.alloc G3.out.bl.size _).setCell (p := ⟨w.heap.size + 1, 0, none⟩) (by simp) _⟩
        simp [results, Tryz.results11, go_sem, z0, z1, z2, z3, z4, z5, z6, z7, hE1, cell_al _ z0, cell_al _ z1, cell_al _ z2, cell_al _ z3, cell_al _ z4, cell_al _ z5, cell_al _ z6, cell_al _ z7, cell_al _ hE1]
      · have e2 : k2 = 0 := by rw [← hk2', r2]; rfl
        subst e2; have HT := Hd (all_more (P := rngOk) ht.out HXK.out (by unfold rngOk; rw [r1, r2]; rfl)); clear r1 r2 hk1' hk2'
        gi_wp2_with (first
         | (refine ⟨trivial, ?_⟩; gi_at_call 31; have g' := G3.out; clear g'; refine Cn (must_yes _ _) ?_; rintro e w9 ⟨rfl, rfl⟩)
         | (refine ⟨trivial, ?_⟩; gi_at_call 32; have g' := G2.out; clear g'
            refine Cn (qcheck_any (l1 := x.2.1.2) (l2 := x.2.2.2) (M := M) (H.out.1.le G2.out.1.bl.size) (HX.out.2.2.1.go G2.out.2) (HX.out.2.2.2.go G2.out.2)) ?_; rintro e w3 ⟨rfl, hb3⟩; rw [HK2.out]; have F3 := G2.out.1.go hb3; refine op1 F3 ?_; intros; have G3 := Hd F3
            clear hb3 F3)
         | (refine Cl 32 (qcheck_any (l1 := x.1.1.2) (l2 := x.1.2.2) (M := M) (H.out.1.le (Nat.le_trans hF.out.bl.size HBK.out.1.size)) (HX.out.1.go HBK.out.1) (HX.out.2.1.go HBK.out.1)) ?_
            rintro e w2 ⟨rfl, hb2⟩; rw [HK1.out]; have g0 := (hb2.cell (World.block_lt_of_cell? Wk _ v4)).trans v4; have g1 := (hb2.cell (World.block_lt_of_cell? Wk _ v5)).trans v5; have g2 := (hb2.cell (World.block_lt_of_cell? Wk _ v6)).trans v6; have g3 := (hb2.cell (World.block_lt_of_cell? Wk _ v7)).trans v7; have hbb := HBK.out.1.trans (hb2.mono HBK.out.1.size); have F2 := hF.out.go hbb; refine op1 F2 ?_; intros; have G2 := Hd2 F2 hbb
            clear hb2 F2 hbb)
         | fail)
        exact ⟨⟨k + 1, by omega, by go_num, HT, G3⟩, by simp [intOf]; omega⟩
  · exfalso
    have hkm : k = m := by omega
    have h1 := ht.out; rw [List.take_of_length_le (by rw [H.out.2.2.2.2, hkm]; exact Nat.le_refl _)] at h1; rw [H.out.2.2.2.1] at h1; exact absurd h1 (by simp)
end
section
open Go.RowKit Go.Shelf
attribute [local go_sem] Oper.semAt_some
set_option maxRecDepth 20000 in
set_option maxHeartbeats 8000000 in
theorem gout_under {M : List Nat} {A B : Option Addr} {n c m d : Nat} {p : List InsR} {l : List Rg} {w : World} (h : OutH w M A n c B m d p l) (hu : l.any underG = true) :
 Calls Tryz.prog 11 #[.slice A n c, .slice B m d] w (OutR w M p (l.map encG)) := by
 refine wid ?_
 have hsp := h.sp.small
 have hsi := h.si.small
 have HE := Hd (show outE p (l.map encG) = 200 by rw [h.outE, hu]; rfl)
 have HV := Hd (show outV p (l.map encG) = zeroG by unfold outV; rw [HE.out]; rfl)
 have H := Hd h
 have HU := Hd hu
 clear h hu
 obtain ⟨W1, hW1, F1⟩ := nam (((Fr.nil w).a8 w.heap.size 33).a0 (w.heap.size + 1) 34)
 refine op1 F1 ?_; intros
 have F := Hd F1
 clear F1
 refine entd Tryz.func11 rfl Tryz.ntmps11 ?_
 gi_wp2_with (refine Cl 30 (ccodeE_any (M := M) _ n c p (m : Int) _ (H.out.bel.le F.out.bl.size) (H.out.sp.go F.out.bl)) ?_
              rintro e w2 ⟨rfl, hb2⟩; rw [H.out.ce]; have F2 := F.out.go hb2; refine op1 F2 ?_; intros; have G2 := Hd F2
              clear hb2 F2)
 gi_loopw [25] (fun i wr => ∃ k : Nat, k ≤ m ∧ i = .int .i64 k ∧ Hid (Fr w wr [(w.heap.size, zG), (w.heap.size + 1, [.int .i64 0])])) (fun i _ => m - (intOf i).toNat)
 case atStart => exact ⟨0, Nat.zero_le _, rfl, G2.out⟩
 case round =>
  obtain ⟨k, hk, rfl, hF⟩ := hrel; have hFo := hF.out; refine op1 hFo ?_; intros; clear hFo
  by_cases hlt : k < m
  · obtain ⟨y, hy⟩ : ∃ y, l[k]? = some y := ⟨_, List.getElem?_eq_getElem (by rw [H.out.li]; exact hlt)⟩
    obtain ⟨x, hxy⟩ : ∃ x, encG y = x := ⟨_, rfl⟩
    have hx : (l.map encG)[k]? = some x := by rw [List.getElem?_map, hy, ← hxy]; rfl
    have hok := mem_ends (List.mem_of_getElem? hy)
    have r1 : ratOk x.1 = true := by rw [← hxy]; exact ratOk_enc (H.out.ins _ hok.1).1
    have r2 : ratOk x.2 = true := by rw [← hxy]; exact ratOk_enc (H.out.ins _ hok.2).1
    obtain ⟨b, o, A1, n1, c1, A2, n2, c2, A3, n3, c3, A4, n4, c4, rfl, ⟨h0, h1, h2, h3⟩, ⟨h4, h5, h6, h7⟩, ⟨s1, s2⟩, s3, s4⟩ := (H.out.si.go hF.out.bl).rngat hx; have HX := Hd4 s1 s2 s3 s4
    obtain ⟨k1, hk1⟩ : ∃ k, ratE (ratOk ((x.1.1.1, x.1.1.2), (x.1.2.1, x.1.2.2))) = k := ⟨_, rfl⟩
    obtain ⟨k2, hk2⟩ : ∃ k, ratE (ratOk ((x.2.1.1, x.2.1.2), (x.2.2.1, x.2.2.2))) = k := ⟨_, rfl⟩
    have HK1 := Hd hk1; have HK2 := Hd hk2; have hk1' : ratE (ratOk x.1) = k1 := hk1; have hk2' : ratE (ratOk x.2) = k2 := hk2; clear hk1 hk2 s1 s2 s3 s4; generalize x.1.1.1 = p1 at *; generalize x.1.2.1 = q1 at *; generalize x.2.1.1 = p2 at *; generalize x.2.2.1 = q2 at *
    obtain ⟨Wk, hWk⟩ : ∃ W' : World, wr.alloc (.cells #[.bool p1, .slice A1 n1 c1, .bool q1, .slice A2 n2 c2, .bool p2, .slice A3 n3 c3, .bool q2, .slice A4 n4 c4] 33) = W' := ⟨_, rfl⟩
    have bk : Below wr.heap.size wr Wk := by rw [← hWk]; exact bel
    have RK : RowV Wk wr.heap.size [.bool p1, .slice A1 n1 c1, .bool q1, .slice A2 n2 c2, .bool p2, .slice A3 n3 c3, .bool q2, .slice A4 n4 c4] 33 := by rw [← hWk]; exact heap_alloc_new wr _
    have v0 := RK.cell (k := 0) rfl; have v1 := RK.cell (k := 1) rfl; have v2 := RK.cell (k := 2) rfl; have v3 := RK.cell (k := 3) rfl; have v4 := RK.cell (k := 4) rfl; have v5 := RK.cell (k := 5) rfl; have v6 := RK.cell (k := 6) rfl; have v7 := RK.cell (k := 7) rfl; have HBK := Hd2 bk RK; clear bk RK
    have e1 : k1 = 0 := by rw [← hk1', r1]; rfl
    subst e1
    have e2 : k2 = 0 := by rw [← hk2', r2]; rfl
    subst e2; clear hx hxy hy hok r1 r2 hk1' hk2'
    skip
    gi_wp2_with (first
     | (refine ⟨trivial, ?_⟩; gi_at_call 31; have g' := G3.out; clear g'; refine Cn (must_yes _ _) ?_; rintro e w9 ⟨rfl, rfl⟩)
     | (refine ⟨trivial, ?_⟩; gi_at_call 32; have g' := G2.out; clear g'
        refine Cn (qcheck_any (l1 := x.2.1.2) (l2 := x.2.2.2) (M := M) (H.out.bel.le G2.out.1.bl.size) (HX.out.2.2.1.go G2.out.2) (HX.out.2.2.2.go G2.out.2)) ?_; rintro e w3 ⟨rfl, hb3⟩; rw [HK2.out]; have F3 := G2.out.1.go hb3; refine op1 F3 ?_; intros; have G3 := Hd F3
        clear hb3 F3)
     | (refine Cl 32 (qcheck_any (l1 := x.1.1.2) (l2 := x.1.2.2) (M := M) (H.out.bel.le (Nat.le_trans hF.out.bl.size HBK.out.1.size)) (HX.out.1.go HBK.out.1) (HX.out.2.1.go HBK.out.1)) ?_
        rintro e w2 ⟨rfl, hb2⟩; rw [HK1.out]; have g0 := (hb2.cell (World.block_lt_of_cell? Wk _ v4)).trans v4; have g1 := (hb2.cell (World.block_lt_of_cell? Wk _ v5)).trans v5; have g2 := (hb2.cell (World.block_lt_of_cell? Wk _ v6)).trans v6; have g3 := (hb2.cell (World.block_lt_of_cell? Wk _ v7)).trans v7; have hbb := HBK.out.1.trans (hb2.mono HBK.out.1.size); have F2 := hF.out.go hbb; refine op1 F2 ?_; intros; have G2 := Hd2 F2 hbb
        clear hb2 F2 hbb)
     | fail)
    exact ⟨⟨k + 1, by omega, by go_num, G3⟩, by simp [intOf]; omega⟩
  · gi_wp2
    clear hk hlt
    gi_loopw [43] (fun i wr => ∃ k : Nat, k ≤ m ∧ i = .int .i64 k ∧ Hid ((l.take k).any underG = false) ∧ Hid (Fr w wr [(w.heap.size, zG), (w.heap.size + 1, [.int .i64 0])])) (fun i _ => m - (intOf i).toNat)
    case atStart => exact ⟨0, Nat.zero_le _, rfl, Hd (by simp), hF⟩
    case round =>
     obtain ⟨k, hk, rfl, ht, hF2⟩ := hrel; have hFo := hF2.out; refine op1 hFo ?_; intros; clear hFo
     by_cases hlt : k < m
     · obtain ⟨b, o, p1, q1, A1, n1, c1, B1, m1, d1, p2, q2, A2, n2, c2, B2, m2, d2, rfl, ⟨h0, h1, h2, h3⟩, ⟨h4, h5, h6, h7⟩, qlo, qhi⟩ := ((SlG.of H.out.si).go hF2.out.bl).at_ hlt
       have hok := H.out.in_k hlt
       obtain ⟨Wk, hWk⟩ : ∃ W' : World, wr.alloc (.cells #[.bool p1, .slice A1 n1 c1, .bool q1, .slice B1 m1 d1, .bool p2, .slice A2 n2 c2, .bool q2, .slice B2 m2 d2] 33) = W' := ⟨_, rfl⟩
       have bk : Below wr.heap.size wr Wk := by rw [← hWk]; exact bel
       have RK : RowV Wk wr.heap.size [.bool p1, .slice A1 n1 c1, .bool q1, .slice B1 m1 d1, .bool p2, .slice A2 n2 c2, .bool q2, .slice B2 m2 d2] 33 := by rw [← hWk]; exact heap_alloc_new wr _
       have v0 := RK.cell (k := 0) rfl; have v1 := RK.cell (k := 1) rfl; have v2 := RK.cell (k := 2) rfl; have v3 := RK.cell (k := 3) rfl; have v4 := RK.cell (k := 4) rfl; have v5 := RK.cell (k := 5) rfl; have v6 := RK.cell (k := 6) rfl; have v7 := RK.cell (k := 7) rfl; have X := Hd4 (qlo.go bk) (qhi.go bk) hok bk
       obtain ⟨cc, hcc⟩ : ∃ cc, decide (cmpQ (regG l k).2 (regG l k).1 < 0) = cc := ⟨_, rfl⟩
       have HC := Hd hcc; clear qlo qhi hok bk RK; cases cc
       · have HT := Hd (show (l.take (k + 1)).any underG = false by
          obtain ⟨y, hy⟩ : ∃ y, l[k]? = some y := ⟨_, List.getElem?_eq_getElem (by rw [H.out.li]; exact hlt)⟩
          rw [take_snoc hy, List.any_append, ht.out]; rw [regG_get hy] at HC; simp only [List.any_cons, List.any_nil, Bool.or_false, Bool.false_or]
          exact HC.out)
         clear hcc
         gi_wp2_with (first
          | (refine ⟨trivial, ?_⟩; gi_at_call 31; have g' := G5.out; clear g'; refine Cn (must_yes _ _) ?_; rintro e w9 ⟨rfl, rfl⟩)
          | (refine Cl 33 (less_any (M := M) (a := (regG l k).2) (b := (regG l k).1) (H.out.bel.le (Nat.le_trans hF2.out.bl.size X.out.2.2.2.size)) X.out.2.1.qw X.out.1.qw X.out.2.2.1.2.1 X.out.2.2.1.1.1 (X.out.2.2.1.2.2.fine X.out.2.2.1.1.2)) ?_
             rintro e w5 ⟨rfl, hb5⟩; rw [HC.out]; have F5 := hF2.out.go (X.out.2.2.2.trans (hb5.mono X.out.2.2.2.size)); refine op1 F5 ?_; intros; have G5 := Hd F5
             clear F5 hb5)
          | fail)
         exact ⟨⟨k + 1, by omega, by go_num, HT, G5⟩, by simp [intOf]; omega⟩
       · clear hcc
         gi_wp2_with (first
          | (refine ⟨trivial, ?_⟩; gi_at_call 31; have g' := G5.out; clear g'; refine Cn (must_no _ _) ?_; rintro e w9 ⟨rfl, rfl⟩)
          | (refine Cl 33 (less_any (M := M) (a := (regG l k).2) (b := (regG l k).1) (H.out.bel.le (Nat.le_trans hF2.out.bl.size X.out.2.2.2.size)) X.out.2.1.qw X.out.1.qw X.out.2.2.1.2.1 X.out.2.2.1.1.1 (X.out.2.2.1.2.2.fine X.out.2.2.1.1.2)) ?_
             rintro e w5 ⟨rfl, hb5⟩; rw [HC.out]; have F5 := hF2.out.go (X.out.2.2.2.trans (hb5.mono X.out.2.2.2.size)); refine op1 F5 ?_; intros; have G5 := Hd F5
             clear F5 hb5)
          | fail)
         refine leavesIn_cons (f := 29) (args := #[.pointer (some ⟨w.heap.size + 1, 0, none⟩)]) (by simp) (by simp) (by simp [go_sem]) (fun _ _ => trivial) ?_; have hE := G5.out.at_ (w.heap.size + 1) [.int .i64 0] (by simp) 0 _ rfl; refine (caughtG_pan ⟨w.heap.size + 1, 0, none⟩ 200 0 [] _ hE.1 hE.2).mono ?_; rintro e u' w'' ⟨rfl, rfl, rfl⟩; have hz := G5.out.nth 0; have z0 := hz 0 _ rfl; have z1 := hz 1 _ rfl; have z2 := hz 2 _ rfl; have z3 := hz 3 _ rfl; have z4 := hz 4 _ rfl; have z5 := hz 5 _ rfl; have z6 := hz 6 _ rfl; have z7 := hz 7 _ rfl; have hE1 := hE.1; refine ⟨.tuple #[.agg #[.bool false, .slice none 0 0, .bool false, .slice none 0 0, .bool false, .slice none 0 0, .bool false, .slice none 0 0], .int .i64 200], ?_, _, by first | (rw [HE.out]; done) | (rw [HE.out]; rfl), by rw [HV.out]; exact (gw0 _ _).gv0, (G5.out.bl.alloc G5.out.bl.size _).setCell (p := ⟨w.heap.size + 1, 0, none⟩) (by simp) _⟩
         simp [results, Tryz.results11, go_sem, z0, z1, z2, z3, z4, z5, z6, z7, hE1, cell_al _ z0, cell_al _ z1, cell_al _ z2, cell_al _ z3, cell_al _ z4, cell_al _ z5, cell_al _ z6, cell_al _ z7, cell_al _ hE1]
     · exfalso
       have hkm : k = m := by omega
       have h1 := ht.out; rw [List.take_of_length_le (by rw [H.out.li, hkm]; exact Nat.le_refl _)] at h1; rw [HU.out] at h1; cases h1
end
section
open Go.RowKit Go.Shelf
attribute [local go_sem] Oper.semAt_some
theorem rng_size : (Tryz.prog.info? 33).map (fun i => i.size) = some 8 := by kernel_rfl
theorem store8_run {W : World} {y : Nat} {a0 a1 a2 a3 a4 a5 a6 a7 : Value} (h : ∀ i u, [a0, a1, a2, a3, a4, a5, a6, a7][i]? = some u → W.cell? ⟨y, i, none⟩ = some u ∧ W.frozen? ⟨y, i, none⟩ = false) (p q r s : Bool) (A B C D : Option Addr) (n c m d i e j f : Nat) :
 (Instr.storeAt 33 (.pointer (some ⟨y, 0, none⟩)) (.agg #[.bool p, .slice A n c, .bool q, .slice B m d, .bool r, .slice C i e, .bool s, .slice D j f])).run Tryz.prog W = .ok () ((((((((W.setCell ⟨y, 0, none⟩ (.bool p)).setCell ⟨y, 1, none⟩ (.slice A n c)).setCell ⟨y, 2, none⟩ (.bool q)).setCell ⟨y, 3, none⟩ (.slice B m d)).setCell ⟨y, 4, none⟩ (.bool r)).setCell ⟨y, 5, none⟩ (.slice C i e)).setCell ⟨y, 6, none⟩ (.bool s)).setCell ⟨y, 7, none⟩ (.slice D j f)) := by
 have g0 := h 0 _ rfl
 have g1 := h 1 _ rfl
 have g2 := h 2 _ rfl
 have g3 := h 3 _ rfl
 have g4 := h 4 _ rfl
 have g5 := h 5 _ rfl
 have g6 := h 6 _ rfl
 have g7 := h 7 _ rfl
 obtain ⟨c0, f0⟩ := g0
 obtain ⟨c1, f1⟩ := g1
 obtain ⟨c2, f2⟩ := g2
 obtain ⟨c3, f3⟩ := g3
 obtain ⟨c4, f4⟩ := g4
 obtain ⟨c5, f5⟩ := g5
 obtain ⟨c6, f6⟩ := g6
 obtain ⟨c7, f7⟩ := g7
 clear h
 go_simp
theorem storeE_run {W : World} {y : Nat} {a : Value} (h0 : W.cell? ⟨y, 0, none⟩ = some a) (f0 : W.frozen? ⟨y, 0, none⟩ = false) (x : Int) :
 (Instr.storeAt 34 (.pointer (some ⟨y, 0, none⟩)) (.int .i64 x)).run Tryz.prog W = .ok () (W.setCell ⟨y, 0, none⟩ (.int .i64 x)) := by
 go_simp
theorem gops_at {o ib : Nat} (h1 : 1 ≤ o) (h8 : o ≤ 8) (h2 : o ≠ 2) : (gOpsL ib)[o]? = some (.func (.func (opG o)) #[] #[]) := by
 have : o = 1 ∨ o = 3 ∨ o = 4 ∨ o = 5 ∨ o = 6 ∨ o = 7 ∨ o = 8 := by omega
 rcases this with rfl | rfl | rfl | rfl | rfl | rfl | rfl <;> rfl
theorem gops_at2 {o ib : Nat} (h : o = 2) : (gOpsL ib)[o]? = some (.func (.func (opG o)) #[] #[.pointer (some ⟨ib, 0, none⟩)]) := by subst h; rfl
structure RunG (w wr : World) (M : List Nat) (ib bo : Nat) (B : Option Addr) (m d : Nat) (v : Value) (j : Nat) (regs : List Rg) : Prop where
 fr : Fr w wr [(w.heap.size, zG), (w.heap.size + 1, [.int .i64 0])]
 ro : RowV wr bo (gOpsL ib) 66
 ci : wr.cell? ⟨ib, 0, none⟩ = some (.slice B m d)
 own : OwnG wr (w.heap.size :: (w.heap.size + 1) :: M) (bo + 1) v j regs
end
end Go.Proofs.YtboapndkopabiaaGreat
